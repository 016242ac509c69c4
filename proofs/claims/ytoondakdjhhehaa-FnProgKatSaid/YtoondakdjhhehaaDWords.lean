/-
  Texts of walks and plain lemmas for this seat; no condition.
-/
import Derived.Test.YtoondakdjhhehaaDKat
import Derived.Test.YtoondakdjhhehaaGZD
import Derived.Test.YtoondakdjhhehaaGB
import Derived.Deep.DeepCutAuto
import Derived.IntWalk
namespace Go.Proofs.Ytoondakdjhhehaa
open Go.RowKit
set_option linter.unusedVariables false

/-- Words of a program. -/
def GoodW (xs : List Int) : Prop := ∃ T : PT, T.ok = true ∧ T.post = xs ∧ xs.length ≤ 16
/-- A row on its way, and the reader. -/
def WSt (g c : Nat) (w wr : World) (v : Value) (xs : List Int) : Prop := OwnI w.heap.size wr.heap.size 3 wr v xs ∧ Outside g (g + 1) w wr ∧ Rd g wr c
theorem WSt.mono {g c c' : Nat} {w wr : World} {v : Value} {xs : List Int} (h : WSt g c w wr v xs) (hc : c ≤ c') : WSt g c' w wr v xs := ⟨h.1, h.2.1, h.2.2.mono hc⟩
theorem WSt.as {g c : Nat} {w wr : World} {v : Value} {xs ys : List Int} (h : WSt g c w wr v xs) (e : xs = ys) : WSt g c w wr v ys := by subst e; exact h
theorem WSt.read {g c c' : Nat} {w wr wy : World} {v : Value} {xs : List Int} (h : WSt g c w wr v xs) (ho : Outside g (g + 1) wr wy) (hr : Rd g wy c') (hg : g < w.heap.size) : WSt g c' w wy v xs :=
  ⟨(h.1.outside ho (.inr (by omega))).lower (Nat.le_refl _) ho.size, h.2.1.trans ho, hr⟩
theorem WSt.app {g c n : Nat} {w wr wy : World} {v v' : Value} {xs ys : List Int} (h : WSt g c w wr v xs) (h5 : Own 1 w.heap.size wy.heap.size 3 wy v' n (ints xs ++ ints ys)) (h6 : Outside w.heap.size wr.heap.size wr wy) (hg : g < w.heap.size) (hn : n = xs.length + ys.length) :
    ∃ a cap zs, zs = xs ++ ys ∧ v' = .slice a zs.length cap ∧ WSt g c w wy (.slice a zs.length cap) zs := by
  obtain ⟨a, cap, rfl, _⟩ := Own.open h5
  have hl : n = (xs ++ ys).length := by simp [hn]
  refine ⟨a, cap, xs ++ ys, rfl, by rw [hl], ?_⟩
  have ho : OwnI w.heap.size wy.heap.size 3 wy (.slice a n cap) (xs ++ ys) := OwnI.len (n := n) (by rw [ints_append]; exact h5) hl
  rw [← hl]
  exact ⟨ho, h.2.1.fresh h6 (Nat.le_refl _), h.2.2.outside h6 hg⟩
theorem WSt.lit {g c : Nat} {w wr : World} (ho : Outside g (g + 1) w wr) (hr : Rd g wr c) (xs : List Int) (hx : xs.length ≤ 100) : WSt g c w (wr.alloc (.cells (ints xs).toArray 3)) (.slice (some ⟨wr.heap.size, 0, none⟩) xs.length xs.length) xs := by
  have h0 := Own.lit 1 3 wr (ints xs) xs.length (by omega) (by simp [ints])
  have hs := ho.size
  exact ⟨OwnI.lower (OwnI.len h0 rfl) hs (by simp), ho.below (al_below _ _) hs, hr.al _⟩
theorem cc_step {K y j cc : Nat} (h : cc = (K + 6) * (y - j)) (h0 : 0 < j) (hj : j ≤ y) : cc + (K + 6) ≤ (K + 6) * (y - (j - 1)) := by
  rw [h, show y - (j - 1) = (y - j) + 1 by omega, Nat.mul_add, Nat.mul_one]
  exact Nat.le_refl _
theorem four_get (z : Nat) (h : z < 4) : ∃ y : Int, (#[.int .i64 3, .int .i64 19, .int .i64 31, .int .i64 116] : Array Value)[z]? = some (.int .i64 y) := by
  match z, h with
  | 0, _ => exact ⟨_, rfl⟩
  | 1, _ => exact ⟨_, rfl⟩
  | 2, _ => exact ⟨_, rfl⟩
  | 3, _ => exact ⟨_, rfl⟩
/-- What comes back. -/
def WordsR (g c : Nat) (n : Int) (w : World) (v : Value) (w' : World) : Prop := ∃ xs : List Int, OwnI w.heap.size w'.heap.size 3 w' v xs ∧ xs.length ≤ 60 ∧ (n ≤ 0 → GoodW xs) ∧ Outside g (g + 1) w w' ∧ Rd g w' c
theorem WSt.ret {g c c' : Nat} {n : Int} {w wr : World} {v : Value} {xs : List Int} (h : WSt g c w wr v xs) (hl : xs.length ≤ 60) (hn : n ≤ 0 → GoodW xs) (hc : c ≤ c') : WordsR g c' n w v wr := ⟨xs, h.1, hl, hn, h.2.1, h.2.2.mono hc⟩

set_option maxRecDepth 100000 in
set_option maxHeartbeats 12800000 in
theorem words_step (L D K : Nat) (hL : L ≤ 10000000) (hD2 : D ≤ 2) (hK : K ≤ 1000) (sub : 0 < D → ∀ (g c : Nat) (w : World), Rd g w c → c ≤ L + 5000 → Calls Try.prog 12 #[.pointer (some ⟨g, 0, none⟩), .int .i64 ((D : Int) - 1), .int .i64 0] w (RetV fun v w' => WordsR g (c + K) 0 w v w'))
    (g c : Nat) (n : Int) (w : World) (h : Rd g w c) (hc : c ≤ L) (hn : n ≤ 1000) :
    Calls Try.prog 12 #[.pointer (some ⟨g, 0, none⟩), .int .i64 D, .int .i64 n] w (RetV fun v w' => WordsR g (c + ((K + 6) * 2 + 12)) n w v w') := by
  have hg := h.lt
  go_enter Try.func12, Try.ntmps12
  go_wp2_with fail
  refine (pick_any g _ 3 _ h (by omega)).mono ?_
  rintro e w1 ⟨q0, rfl, i_, h_, r_⟩
  obtain ⟨q0a, q0b⟩ := i_.lt (by omega)
  have hs1 := h_.size
  have hq16 : IntKind.i64.wrap (16 + q0) = 16 + q0 := IntWalk.i64_in _ (by omega)
  have HS := Lib.hid (WSt.lit h_ r_ [16 + q0] (by simp))
  obtain ⟨wl, hwl⟩ : ∃ wl, wl = w1.alloc (.cells (ints [16 + q0]).toArray 3) := ⟨_, rfl⟩
  rw [← hwl] at HS
  have HWL : Hid (w1.alloc (.cells #[.int .i64 (16 + q0)] 3) = wl) := Lib.hid hwl.symm
  clear h_ r_ i_ hwl h hq16
  go_wp2_with (rw [HWL.out])
  try rw [HWL.out]
  go_wp2_with fail
  refine (pick_any g _ 9 _ HS.out.2.2 (by omega)).mono ?_
  rintro e w2 ⟨q9, rfl, i_, h_, r_⟩
  obtain ⟨q9a, q9b⟩ := i_.lt (by omega)
  replace HS := Lib.hid (HS.out.read h_ r_ hg)
  clear h_ r_ i_
  go_upto_if 15 with fail
  go_cut [7] (fun p wx => ∃ (a : Option Addr) (cap : Nat) (x : Int), 15 ≤ x ∧ x ≤ 18 ∧ p = .slice a 1 cap ∧ Hid (WSt g (c + 2) w wx (.slice a 1 cap) [x]))
  case first =>
    cases hq : q9 == 0
    · go_wp2_with fail
      go_meet
      exact ⟨_, _, 16 + q0, by omega, by omega, rfl, HS⟩
    · go_wp2_with fail
      go_meet
      exact ⟨_, _, 15, by omega, by omega, rfl, Lib.hid (WSt.lit HS.out.2.1 HS.out.2.2 [15] (by simp))⟩
  case rest =>
    obtain ⟨a0, cap0, x0, hx0, hx1, rfl, HS2⟩ := hcut
    obtain ⟨w2, rfl⟩ : ∃ x_, x_ = wc := ⟨_, rfl⟩
    clear HS
    have HS := HS2
    clear HS2
    go_wp2_with fail
    refine (pick_any g _ 3 _ HS.out.2.2 (by omega)).mono ?_
    rintro e w3 ⟨qk, rfl, i_, h_, r_⟩
    obtain ⟨qka, qkb⟩ := i_.lt (by omega)
    replace HS := Lib.hid (HS.out.read h_ r_ hg)
    clear h_ r_ i_
    obtain ⟨y, rfl⟩ : ∃ y : Nat, qk = y := ⟨qk.toNat, by omega⟩
    have hy2 : y ≤ 2 := by omega
    go_wp2
    go_loopw [7, 8] (fun v i wr => ∃ (j : Nat) (a : Option Addr) (cap : Nat) (T : PT), v = .slice a T.post.length cap ∧ T.ok = true ∧ T.post.length ≤ 1 + 17 * (y - j) ∧ j ≤ y ∧ i = .int .i64 j ∧ Hid (WSt g (c + 3 + (K + 6) * (y - j)) w wr (.slice a T.post.length cap) T.post)) (fun _ i _ => (intOf i).toNat)
    case atStart => exact ⟨y, _, _, .one x0, rfl, by simp [PT.ok, inB]; omega, by simp [PT.post], Nat.le_refl _, rfl, Lib.hid (HS.out.mono (by omega))⟩
    case round =>
      obtain ⟨j, a, cap, T, rfl, hT, hTl, hj, rfl, HQ⟩ := hrel
      clear HS
      have HS := HQ
      clear HQ
      have hcc : (K + 6) * (y - j) ≤ 2012 := Nat.le_trans (Nat.mul_le_mul (show K + 6 ≤ 1006 by omega) (show y - j ≤ 2 by omega)) (by omega)
      have hTp : 1 ≤ T.post.length := by rw [PT.post_length]; exact PT.size_pos T
      obtain ⟨cc, hcc2⟩ : ∃ cc, cc = (K + 6) * (y - j) := ⟨_, rfl⟩
      have HCC := Lib.hid hcc2
      rw [← hcc2] at HS hcc
      clear hcc2
      by_cases hj0 : 0 < j
      · by_cases hD0 : 0 < D
        · have hd1 : decide ((0 : Int) < (j : Int)) = true := decide_eq_true (by omega)
          have hd2 : decide ((0 : Int) < (D : Int)) = true := decide_eq_true (by omega)
          go_wp2_with fail
          refine (pick_any g _ 5 _ HS.out.2.2 (by omega)).mono ?_
          rintro e w4 ⟨q5, rfl, i_, h_, r_⟩
          obtain ⟨q5a, q5b⟩ := i_.lt (by omega)
          replace HS := Lib.hid (HS.out.read h_ r_ hg)
          clear h_ r_ i_
          have hx3 : q5 = 0 ∨ q5 = 1 ∨ q5 = 2 ∨ q5 = 3 ∨ q5 = 4 := by omega
          clear q5a q5b
          rcases hx3 with rfl | rfl | rfl | rfl | rfl
          · skip
            go_wp2_with fail
            refine (l20Test_any g _ 0 _ HS.out.2.2 (by omega) (by omega)).mono ?_
            rintro e w5 ⟨t, rfl, ⟨ht_, _, _⟩, h_, r_⟩
            obtain ⟨ht0, ht15⟩ := ht_ (by omega)
            replace HS := Lib.hid (HS.out.read h_ r_ hg)
            clear h_ r_ ht_
            have e200 : IntKind.i64.wrap (200 + t) = 200 + t := IntWalk.i64_in _ (by omega)
            have hown6 := HS.out.1
            have hsz6 := HS.out.2.1.size
            go_wp2_with (at_builtin; refine wpList_app_lit _ rfl _ _ 23 rfl 3 (.int .i64 0) 1 8 Try.underlying23 info_int rfl (by decide) (by decide) rfl hown6 1 (ints [200 + t]) rfl rfl (ints_one _) rfl ?c16 ?c26 ?_)
            case c16 => first | omega | (simp only [List.length_append]; omega) | (simp; omega)
            case c26 => omega
            intro v' w6 h5 h6 _
            obtain ⟨a6, cap6, zs6, hz6, rfl, HS6⟩ := HS.out.app h5 h6 hg (by simp)
            have HZ6 := Lib.hid hz6
            have lz6 : zs6.length ≤ T.post.length + 1 := by rw [hz6]; simp
            have lw6 : T.post.length + 1 ≤ zs6.length := by rw [hz6]; simp
            clear h5 h6 HS hown6 hz6
            have HS := Lib.hid HS6
            clear HS6
            clear e200
            have N1 : zs6.length ≤ 1 + 17 * (y - (j - 1)) := by omega
            have N3 : j - 1 ≤ y := by omega
            have N4 := cc_step HCC.out hj0 hj
            replace HS := Lib.hid (HS.out.mono (show _ ≤ c + 3 + (K + 6) * (y - (j - 1)) by omega))
            have N5 : (PT.wh t T).ok = true := by simp [PT.ok, inB, hT]; omega
            obtain rfl : zs6 = (PT.wh t T).post := by rw [HZ6.out]; simp [PT.post]
            clear N4 lz6 lw6
            go_wp2
            go_roundw
            case rel => exact ⟨j - 1, _, _, PT.wh t T, rfl, N5, N1, N3, by go_num, HS⟩
            case measure => simp [intOf]; omega
          · skip
            go_wp2_with fail
            refine (sub hD0 g _ _ HS.out.2.2 (by omega)).mono ?_
            rintro e w5 ⟨_, rfl, ss, so, sl40, sg, h_, r_⟩
            obtain ⟨S, hS, hSp, hSl⟩ := sg (by omega)
            obtain ⟨sa, sc, rfl, _, _⟩ := Sl.shape so.sl
            have SO := Lib.hid so.sl
            subst hSp
            replace HS := Lib.hid (HS.out.read h_ r_ hg)
            clear h_ r_ so sg sl40
            have hown6 := HS.out.1
            have hsz6 := HS.out.2.1.size
            go_wp2_with (at_builtin; go_loud (refine wpList_app_sl rfl _ _ 23 rfl 3 (.int .i64 0) 1 8 Try.underlying23 info_int rfl (by decide) (by decide) rfl hown6 rfl SO.out (ints_one _) ?c16 ?c26 ?_))
            case c16 => first | omega | (simp only [List.length_append]; omega) | (simp; omega)
            case c26 => omega
            intro v' w6 h5 _ h6 _
            obtain ⟨a6, cap6, zs6, hz6, rfl, HS6⟩ := HS.out.app h5 h6 hg (by simp)
            have HZ6 := Lib.hid hz6
            have lz6 : zs6.length ≤ T.post.length + S.post.length := by rw [hz6]; simp
            have lw6 : T.post.length + S.post.length ≤ zs6.length := by rw [hz6]; simp
            clear h5 h6 HS hown6 hz6
            have HS := Lib.hid HS6
            clear HS6
            go_wp2_with fail
            refine (l20Test_any g _ 0 _ HS.out.2.2 (by omega) (by omega)).mono ?_
            rintro e w7 ⟨t, rfl, ⟨ht_, _, _⟩, h_, r_⟩
            obtain ⟨ht0, ht15⟩ := ht_ (by omega)
            replace HS := Lib.hid (HS.out.read h_ r_ hg)
            clear h_ r_ ht_
            have e100 : IntKind.i64.wrap (100 + t) = 100 + t := IntWalk.i64_in _ (by omega)
            have hown8 := HS.out.1
            have hsz8 := HS.out.2.1.size
            go_wp2_with (at_builtin; refine wpList_app_lit _ rfl _ _ 23 rfl 3 (.int .i64 0) 1 8 Try.underlying23 info_int rfl (by decide) (by decide) rfl hown8 1 (ints [100 + t]) rfl rfl (ints_one _) rfl ?c18 ?c28 ?_)
            case c18 => first | omega | (simp only [List.length_append]; omega) | (simp; omega)
            case c28 => omega
            intro v' w8 h5 h6 _
            obtain ⟨a8, cap8, zs8, hz8, rfl, HS8⟩ := HS.out.app h5 h6 hg (by simp)
            have HZ8 := Lib.hid hz8
            have lz8 : zs8.length ≤ zs6.length + 1 := by rw [hz8]; simp
            have lw8 : zs6.length + 1 ≤ zs8.length := by rw [hz8]; simp
            clear h5 h6 HS hown8 hz8
            have HS := Lib.hid HS8
            clear HS8
            clear e100
            have N1 : zs8.length ≤ 1 + 17 * (y - (j - 1)) := by omega
            have N3 : j - 1 ≤ y := by omega
            have N4 := cc_step HCC.out hj0 hj
            replace HS := Lib.hid (HS.out.mono (show _ ≤ c + 3 + (K + 6) * (y - (j - 1)) by omega))
            have N5 : (PT.ite t T S).ok = true := by simp [PT.ok, inB, hT, hS]; omega
            obtain rfl : zs8 = (PT.ite t T S).post := by rw [HZ8.out, HZ6.out]; simp [PT.post]
            clear N4 lz8 lw8
            go_wp2
            go_roundw
            case rel => exact ⟨j - 1, _, _, PT.ite t T S, rfl, N5, N1, N3, by go_num, HS⟩
            case measure => simp [intOf]; omega
          · skip
            have hz0 := HS.out.2.1.size
            have hgl := HS.out.2.2.lt
            have hg4 : g < w4.heap.size := by omega
            have hb0_ := (Own.lit 1 3 w4 (ints []) 0 (by omega) rfl)
            obtain ⟨wb, hwb⟩ : ∃ wb, wb = w4.alloc (.cells (ints []).toArray 3) := ⟨_, rfl⟩
            rw [← hwb] at hb0_
            have hbb : Below w4.heap.size w4 wb := by rw [hwb]; exact al_below _ _
            have hbs : w4.heap.size + 1 = wb.heap.size := by rw [hwb]; simp
            have HWB : Hid (w4.alloc (.cells #[] 3) = wb) := Lib.hid hwb.symm
            have HT := Lib.hid (HS.out.1.sl.below hbb (Nat.le_refl _))
            have HOW := Lib.hid HS.out.2.1
            have HO4 := Lib.hid ((Outside.refl g (g + 1) w4).below hbb (Nat.le_refl _))
            have HR4 := Lib.hid (HS.out.2.2.below hbb hgl)
            have HB0 : Hid (OwnI w4.heap.size (w4.heap.size + 1) 3 wb (.slice (some ⟨w4.heap.size, 0, none⟩) 0 0) []) := Lib.hid hb0_
            clear HS hwb hb0_ hbb
            go_wp2_with (rw [HWB.out])
            try rw [HWB.out]
            refine (sub hD0 g _ wb HR4.out (by omega)).mono ?_
            rintro e w5 ⟨_, rfl, ss, so, sl40, sg, h_, r_⟩
            obtain ⟨S, hS, hSp, hSl⟩ := sg (by omega)
            obtain ⟨sa, sc, rfl, _, _⟩ := Sl.shape so.sl
            have SO := Lib.hid so.sl
            subst hSp
            have hs5_ := h_.size
            replace HT := Lib.hid (HT.out.outside h_ (.inr (by omega)))
            have HS : Hid (WSt g (c + 3 + cc + 1 + K) w4 w5 (.slice (some ⟨w4.heap.size, 0, none⟩) 0 0) []) := Lib.hid ⟨(HB0.out.outside h_ (.inr (by omega))).lower (Nat.le_refl _) (by omega), HO4.out.trans h_, r_⟩
            have hbs2 : w4.heap.size < wb.heap.size := by omega
            clear h_ r_ so sg sl40 HO4 HR4 HB0 hbs
            have hown6 := HS.out.1
            have hsz6 := HS.out.2.1.size
            go_wp2_with (at_builtin; go_loud (refine wpList_app_sl rfl _ _ 23 rfl 3 (.int .i64 0) 1 8 Try.underlying23 info_int rfl (by decide) (by decide) rfl hown6 rfl SO.out (ints_one _) ?c16 ?c26 ?_))
            case c16 => first | omega | (simp only [List.length_append]; omega) | (simp; omega)
            case c26 => omega
            intro v' w6 h5 _ h6 _
            replace HT := Lib.hid (HT.out.outside h6 (.inl (Nat.le_refl _)))
            obtain ⟨a6, cap6, zs6, hz6, rfl, HS6⟩ := HS.out.app h5 h6 hg4 (by simp)
            have HZ6 := Lib.hid hz6
            have lz6 : zs6.length ≤ 0 + S.post.length := by rw [hz6]; simp
            have lw6 : 0 + S.post.length ≤ zs6.length := by rw [hz6]; simp
            clear h5 h6 HS hown6 hz6
            have HS := Lib.hid HS6
            clear HS6
            have hown7 := HS.out.1
            have hsz7 := HS.out.2.1.size
            go_wp2_with (at_builtin; go_loud (refine wpList_app_sl rfl _ _ 23 rfl 3 (.int .i64 0) 1 8 Try.underlying23 info_int rfl (by decide) (by decide) rfl hown7 rfl HT.out (ints_one _) ?c17 ?c27 ?_))
            case c17 => first | omega | (simp only [List.length_append]; omega) | (simp; omega)
            case c27 => omega
            intro v' w7 h5 _ h6 _
            obtain ⟨a7, cap7, zs7, hz7, rfl, HS7⟩ := HS.out.app h5 h6 hg4 (by simp)
            have HZ7 := Lib.hid hz7
            have lz7 : zs7.length ≤ zs6.length + T.post.length := by rw [hz7]; simp
            have lw7 : zs6.length + T.post.length ≤ zs7.length := by rw [hz7]; simp
            clear h5 h6 HS hown7 hz7
            have HS := Lib.hid HS7
            clear HS7
            have hown8 := HS.out.1
            have hsz8 := HS.out.2.1.size
            go_wp2_with (at_builtin; refine wpList_app_lit _ rfl _ _ 23 rfl 3 (.int .i64 0) 1 8 Try.underlying23 info_int rfl (by decide) (by decide) rfl hown8 1 (ints [30]) rfl rfl (ints_one _) rfl ?c18 ?c28 ?_)
            case c18 => first | omega | (simp only [List.length_append]; omega) | (simp; omega)
            case c28 => omega
            intro v' w8 h5 h6 _
            obtain ⟨a8, cap8, zs8, hz8, rfl, HS8⟩ := HS.out.app h5 h6 hg4 (by simp)
            have HZ8 := Lib.hid hz8
            have lz8 : zs8.length ≤ zs7.length + 1 := by rw [hz8]; simp
            have lw8 : zs7.length + 1 ≤ zs8.length := by rw [hz8]; simp
            clear h5 h6 HS hown8 hz8
            have HS := Lib.hid HS8
            clear HS8
            have hz8 := HS.out.2.1.size
            have HSe := Lib.hid (show WSt g _ w w8 _ _ from ⟨HS.out.1.lower hz0 (Nat.le_refl _), HOW.out.trans HS.out.2.1, HS.out.2.2⟩)
            clear HS
            have HS := HSe
            clear HSe
            have N1 : zs8.length ≤ 1 + 17 * (y - (j - 1)) := by omega
            have N3 : j - 1 ≤ y := by omega
            have N4 := cc_step HCC.out hj0 hj
            replace HS := Lib.hid (HS.out.mono (show _ ≤ c + 3 + (K + 6) * (y - (j - 1)) by omega))
            have N5 : (PT.seq S T).ok = true := by simp [PT.ok, hT, hS]
            obtain rfl : zs8 = (PT.seq S T).post := by rw [HZ8.out, HZ7.out, HZ6.out]; simp [PT.post]
            clear N4 lz8 lw8
            go_wp2
            go_roundw
            case rel => exact ⟨j - 1, _, _, PT.seq S T, rfl, N5, N1, N3, by go_num, HS⟩
            case measure => simp [intOf]; omega
          · skip
            go_wp2_with fail
            refine (sub hD0 g _ _ HS.out.2.2 (by omega)).mono ?_
            rintro e w5 ⟨_, rfl, ss, so, sl40, sg, h_, r_⟩
            obtain ⟨S, hS, hSp, hSl⟩ := sg (by omega)
            obtain ⟨sa, sc, rfl, _, _⟩ := Sl.shape so.sl
            have SO := Lib.hid so.sl
            subst hSp
            replace HS := Lib.hid (HS.out.read h_ r_ hg)
            clear h_ r_ so sg sl40
            have hown6 := HS.out.1
            have hsz6 := HS.out.2.1.size
            go_wp2_with (at_builtin; go_loud (refine wpList_app_sl rfl _ _ 23 rfl 3 (.int .i64 0) 1 8 Try.underlying23 info_int rfl (by decide) (by decide) rfl hown6 rfl SO.out (ints_one _) ?c16 ?c26 ?_))
            case c16 => first | omega | (simp only [List.length_append]; omega) | (simp; omega)
            case c26 => omega
            intro v' w6 h5 _ h6 _
            obtain ⟨a6, cap6, zs6, hz6, rfl, HS6⟩ := HS.out.app h5 h6 hg (by simp)
            have HZ6 := Lib.hid hz6
            have lz6 : zs6.length ≤ T.post.length + S.post.length := by rw [hz6]; simp
            have lw6 : T.post.length + S.post.length ≤ zs6.length := by rw [hz6]; simp
            clear h5 h6 HS hown6 hz6
            have HS := Lib.hid HS6
            clear HS6
            have hown8 := HS.out.1
            have hsz8 := HS.out.2.1.size
            go_wp2_with (at_builtin; refine wpList_app_lit _ rfl _ _ 23 rfl 3 (.int .i64 0) 1 8 Try.underlying23 info_int rfl (by decide) (by decide) rfl hown8 1 (ints [30]) rfl rfl (ints_one _) rfl ?c18 ?c28 ?_)
            case c18 => first | omega | (simp only [List.length_append]; omega) | (simp; omega)
            case c28 => omega
            intro v' w8 h5 h6 _
            obtain ⟨a8, cap8, zs8, hz8, rfl, HS8⟩ := HS.out.app h5 h6 hg (by simp)
            have HZ8 := Lib.hid hz8
            have lz8 : zs8.length ≤ zs6.length + 1 := by rw [hz8]; simp
            have lw8 : zs6.length + 1 ≤ zs8.length := by rw [hz8]; simp
            clear h5 h6 HS hown8 hz8
            have HS := Lib.hid HS8
            clear HS8
            have N1 : zs8.length ≤ 1 + 17 * (y - (j - 1)) := by omega
            have N3 : j - 1 ≤ y := by omega
            have N4 := cc_step HCC.out hj0 hj
            replace HS := Lib.hid (HS.out.mono (show _ ≤ c + 3 + (K + 6) * (y - (j - 1)) by omega))
            have N5 : (PT.seq T S).ok = true := by simp [PT.ok, hT, hS]
            obtain rfl : zs8 = (PT.seq T S).post := by rw [HZ8.out, HZ6.out]; simp [PT.post]
            clear N4 lz8 lw8
            go_wp2
            go_roundw
            case rel => exact ⟨j - 1, _, _, PT.seq T S, rfl, N5, N1, N3, by go_num, HS⟩
            case measure => simp [intOf]; omega
          · skip
            go_wp2_with fail
            refine (sub hD0 g _ _ HS.out.2.2 (by omega)).mono ?_
            rintro e w5 ⟨_, rfl, ss, so, sl40, sg, h_, r_⟩
            obtain ⟨S, hS, hSp, hSl⟩ := sg (by omega)
            obtain ⟨sa, sc, rfl, _, _⟩ := Sl.shape so.sl
            have SO := Lib.hid so.sl
            subst hSp
            replace HS := Lib.hid (HS.out.read h_ r_ hg)
            clear h_ r_ so sg sl40
            have hown6 := HS.out.1
            have hsz6 := HS.out.2.1.size
            go_wp2_with (at_builtin; go_loud (refine wpList_app_sl rfl _ _ 23 rfl 3 (.int .i64 0) 1 8 Try.underlying23 info_int rfl (by decide) (by decide) rfl hown6 rfl SO.out (ints_one _) ?c16 ?c26 ?_))
            case c16 => first | omega | (simp only [List.length_append]; omega) | (simp; omega)
            case c26 => omega
            intro v' w6 h5 _ h6 _
            obtain ⟨a6, cap6, zs6, hz6, rfl, HS6⟩ := HS.out.app h5 h6 hg (by simp)
            have HZ6 := Lib.hid hz6
            have lz6 : zs6.length ≤ T.post.length + S.post.length := by rw [hz6]; simp
            have lw6 : T.post.length + S.post.length ≤ zs6.length := by rw [hz6]; simp
            clear h5 h6 HS hown6 hz6
            have HS := Lib.hid HS6
            clear HS6
            have hown8 := HS.out.1
            have hsz8 := HS.out.2.1.size
            go_wp2_with (at_builtin; refine wpList_app_lit _ rfl _ _ 23 rfl 3 (.int .i64 0) 1 8 Try.underlying23 info_int rfl (by decide) (by decide) rfl hown8 1 (ints [30]) rfl rfl (ints_one _) rfl ?c18 ?c28 ?_)
            case c18 => first | omega | (simp only [List.length_append]; omega) | (simp; omega)
            case c28 => omega
            intro v' w8 h5 h6 _
            obtain ⟨a8, cap8, zs8, hz8, rfl, HS8⟩ := HS.out.app h5 h6 hg (by simp)
            have HZ8 := Lib.hid hz8
            have lz8 : zs8.length ≤ zs6.length + 1 := by rw [hz8]; simp
            have lw8 : zs6.length + 1 ≤ zs8.length := by rw [hz8]; simp
            clear h5 h6 HS hown8 hz8
            have HS := Lib.hid HS8
            clear HS8
            have N1 : zs8.length ≤ 1 + 17 * (y - (j - 1)) := by omega
            have N3 : j - 1 ≤ y := by omega
            have N4 := cc_step HCC.out hj0 hj
            replace HS := Lib.hid (HS.out.mono (show _ ≤ c + 3 + (K + 6) * (y - (j - 1)) by omega))
            have N5 : (PT.seq T S).ok = true := by simp [PT.ok, hT, hS]
            obtain rfl : zs8 = (PT.seq T S).post := by rw [HZ8.out, HZ6.out]; simp [PT.post]
            clear N4 lz8 lw8
            go_wp2
            go_roundw
            case rel => exact ⟨j - 1, _, _, PT.seq T S, rfl, N5, N1, N3, by go_num, HS⟩
            case measure => simp [intOf]; omega
        · obtain rfl : D = 0 := by omega
          have hd1 : decide ((0 : Int) < (j : Int)) = true := decide_eq_true (by omega)
          clear sub
          have hcc3 : cc ≤ (K + 6) * 2 := by rw [HCC.out]; exact Nat.mul_le_mul_left _ (by omega)
          go_upto_if 72 with fail
          go_cut [7] (fun p wx => ∃ (a : Option Addr) (cap : Nat) (xs : List Int), p = .slice a xs.length cap ∧ Hid (GoodW xs) ∧ xs.length ≤ 16 ∧ Hid (WSt g (c + 3 + cc) w wx (.slice a xs.length cap) xs))
          case first =>
            by_cases hbig : T.post.length ≤ 16
            · have hd3 : decide (16 < (T.post.length : Int)) = false := decide_eq_false (by omega)
              go_wp2_with fail
              go_meet
              exact ⟨_, _, _, rfl, Lib.hid ⟨T, hT, rfl, hbig⟩, hbig, HS⟩
            · have hd3 : decide (16 < (T.post.length : Int)) = true := decide_eq_true (by omega)
              go_wp2_with fail
              go_meet
              exact ⟨_, _, [16, 210], rfl, Lib.hid ⟨.wh 10 (.one 16), by decide, by simp [PT.post], by decide⟩, by decide, Lib.hid (WSt.lit HS.out.2.1 HS.out.2.2 [16, 210] (by simp))⟩
          case rest =>
            obtain ⟨a9, cap9, xs9, rfl, HGd, hl9, HS9⟩ := hcut
            obtain ⟨w9, rfl⟩ : ∃ x_, x_ = wc := ⟨_, rfl⟩
            clear HS
            have HS := HS9
            clear HS9
            go_wp2_with fail
            refine (odd2_any g _ n _ HS.out.2.2 (by omega) (by omega)).mono ?_
            rintro e w10 ⟨b, rfl, hb, h_, r_⟩
            replace HS := Lib.hid (HS.out.read h_ r_ hg)
            clear h_ r_
            cases b
            · go_wp2
              go_ret
              exact RetV.mk _ rfl (HS.out.ret (by omega) (fun _ => HGd.out) (by omega))
            · have hn0 : ¬ n ≤ 0 := by have := hb rfl; omega
              clear hb HGd
              go_wp2_with fail
              refine (pick_any g _ 4 _ HS.out.2.2 (by omega)).mono ?_
              rintro e w11 ⟨q11, rfl, i_, h_, r_⟩
              obtain ⟨q11a, q11b⟩ := i_.lt (by omega)
              replace HS := Lib.hid (HS.out.read h_ r_ hg)
              clear h_ r_ i_
              have hq4 : q11 = 0 ∨ q11 = 1 ∨ q11 = 2 ∨ q11 = 3 := by omega
              clear q11a q11b
              rcases hq4 with rfl | rfl | rfl | rfl
              · have HZ := Lib.hid (WSt.lit HS.out.2.1 HS.out.2.2 [] (by simp))
                go_wp2
                go_ret
                exact RetV.mk _ rfl (HZ.out.ret (by simp) (fun h => absurd h (by omega)) (by omega))
              · skip
                have hown12 := HS.out.1
                have hsz12 := HS.out.2.1.size
                go_wp2_with (at_builtin; refine wpList_app_lit _ rfl _ _ 23 rfl 3 (.int .i64 0) 1 8 Try.underlying23 info_int rfl (by decide) (by decide) rfl hown12 1 (ints [16]) rfl rfl (ints_one _) rfl ?c112 ?c212 ?_)
                case c112 => first | omega | (simp only [List.length_append]; omega) | (simp; omega)
                case c212 => omega
                intro v' w12 h5 h6 _
                obtain ⟨a12, cap12, zs12, hz12, rfl, HS12⟩ := HS.out.app h5 h6 hg (by simp)
                have HZ12 := Lib.hid hz12
                have lz12 : zs12.length ≤ xs9.length + 1 := by rw [hz12]; simp
                have lw12 : xs9.length + 1 ≤ zs12.length := by rw [hz12]; simp
                clear h5 h6 HS hown12 hz12
                have HS := Lib.hid HS12
                clear HS12
                go_wp2
                go_ret
                exact RetV.mk _ rfl (HS.out.ret (by omega) (fun h => absurd h (by omega)) (by omega))
              · have hlt := HS.out.2.2.lt
                go_wp2_with fail
                refine (pick_any g _ 4 _ (HS.out.2.2.al _) (by omega)).mono ?_
                rintro e w12 ⟨x6, rfl, i6, ho, hr⟩
                obtain ⟨i6, i6'⟩ := i6.lt (by omega)
                have K4 := hop3 ho hlt
                replace HS := Lib.hid (HS.out.read (ho.grew (Grew.al _ (Grew.refl _))) hr hg)
                clear ho hr
                obtain ⟨z, rfl⟩ : ∃ z : Nat, x6 = z := ⟨x6.toNat, by omega⟩
                obtain ⟨q, hq⟩ := four_get z (by omega)
                have hcell := (K4.cell z).trans hq
                clear K4 hq
                have hown13 := HS.out.1
                have hsz13 := HS.out.2.1.size
                go_wp2_with (at_builtin; refine wpList_app_lit _ rfl _ _ 23 rfl 3 (.int .i64 0) 1 8 Try.underlying23 info_int rfl (by decide) (by decide) rfl hown13 1 (ints [q]) rfl rfl (ints_one _) rfl ?c113 ?c213 ?_)
                case c113 => first | omega | (simp only [List.length_append]; omega) | (simp; omega)
                case c213 => omega
                intro v' w13 h5 h6 _
                obtain ⟨a13, cap13, zs13, hz13, rfl, HS13⟩ := HS.out.app h5 h6 hg (by simp)
                have HZ13 := Lib.hid hz13
                have lz13 : zs13.length ≤ xs9.length + 1 := by rw [hz13]; simp
                have lw13 : xs9.length + 1 ≤ zs13.length := by rw [hz13]; simp
                clear h5 h6 HS hown13 hz13
                have HS := Lib.hid HS13
                clear HS13
                go_wp2
                go_ret
                exact RetV.mk _ rfl (HS.out.ret (by omega) (fun h => absurd h (by omega)) (by omega))
              · go_wp2
                have HS0 := HS
                clear HS
                go_loopw [7] (fun v wr => ∃ (a : Option Addr) (cap : Nat) (zs : List Int), v = .slice a zs.length cap ∧ zs.length ≤ 17 ∧ Hid (WSt g (c + 3 + cc + 2) w wr (.slice a zs.length cap) zs)) (fun v _ => 18 - slLen v)
                case atStart => exact ⟨_, _, xs9, rfl, by omega, Lib.hid (HS0.out.mono (by omega))⟩
                case round =>
                  obtain ⟨a2, cap2, zs, rfl, hz, HS⟩ := hrel
                  by_cases hz2 : zs.length ≤ 16
                  · skip
                    have hown14 := HS.out.1
                    have hsz14 := HS.out.2.1.size
                    go_wp2_with (at_builtin; refine wpList_app_lit _ rfl _ _ 23 rfl 3 (.int .i64 0) 1 8 Try.underlying23 info_int rfl (by decide) (by decide) rfl hown14 1 (ints [200]) rfl rfl (ints_one _) rfl ?c114 ?c214 ?_)
                    case c114 => first | omega | (simp only [List.length_append]; omega) | (simp; omega)
                    case c214 => omega
                    intro v' w14 h5 h6 _
                    obtain ⟨a14, cap14, zs14, hz14, rfl, HS14⟩ := HS.out.app h5 h6 hg (by simp)
                    have HZ14 := Lib.hid hz14
                    have lz14 : zs14.length ≤ zs.length + 1 := by rw [hz14]; simp
                    have lw14 : zs.length + 1 ≤ zs14.length := by rw [hz14]; simp
                    clear h5 h6 HS hown14 hz14
                    have HS := Lib.hid HS14
                    clear HS14
                    go_wp2
                    go_roundw
                    case rel => exact ⟨_, _, zs14, rfl, by omega, HS⟩
                    case measure => simp [slLen]; omega
                  · go_wp2
                    go_ret
                    exact RetV.mk _ rfl (HS.out.ret (by omega) (fun h => absurd h (by omega)) (by omega))
      · skip
        clear sub
        have hcc3 : cc ≤ (K + 6) * 2 := by rw [HCC.out]; exact Nat.mul_le_mul_left _ (by omega)
        go_upto_if 72 with fail
        go_cut [7] (fun p wx => ∃ (a : Option Addr) (cap : Nat) (xs : List Int), p = .slice a xs.length cap ∧ Hid (GoodW xs) ∧ xs.length ≤ 16 ∧ Hid (WSt g (c + 3 + cc) w wx (.slice a xs.length cap) xs))
        case first =>
          by_cases hbig : T.post.length ≤ 16
          · have hd3 : decide (16 < (T.post.length : Int)) = false := decide_eq_false (by omega)
            go_wp2_with fail
            go_meet
            exact ⟨_, _, _, rfl, Lib.hid ⟨T, hT, rfl, hbig⟩, hbig, HS⟩
          · have hd3 : decide (16 < (T.post.length : Int)) = true := decide_eq_true (by omega)
            go_wp2_with fail
            go_meet
            exact ⟨_, _, [16, 210], rfl, Lib.hid ⟨.wh 10 (.one 16), by decide, by simp [PT.post], by decide⟩, by decide, Lib.hid (WSt.lit HS.out.2.1 HS.out.2.2 [16, 210] (by simp))⟩
        case rest =>
          obtain ⟨a9, cap9, xs9, rfl, HGd, hl9, HS9⟩ := hcut
          obtain ⟨w9, rfl⟩ : ∃ x_, x_ = wc := ⟨_, rfl⟩
          clear HS
          have HS := HS9
          clear HS9
          go_wp2_with fail
          refine (odd2_any g _ n _ HS.out.2.2 (by omega) (by omega)).mono ?_
          rintro e w10 ⟨b, rfl, hb, h_, r_⟩
          replace HS := Lib.hid (HS.out.read h_ r_ hg)
          clear h_ r_
          cases b
          · go_wp2
            go_ret
            exact RetV.mk _ rfl (HS.out.ret (by omega) (fun _ => HGd.out) (by omega))
          · have hn0 : ¬ n ≤ 0 := by have := hb rfl; omega
            clear hb HGd
            go_wp2_with fail
            refine (pick_any g _ 4 _ HS.out.2.2 (by omega)).mono ?_
            rintro e w11 ⟨q11, rfl, i_, h_, r_⟩
            obtain ⟨q11a, q11b⟩ := i_.lt (by omega)
            replace HS := Lib.hid (HS.out.read h_ r_ hg)
            clear h_ r_ i_
            have hq4 : q11 = 0 ∨ q11 = 1 ∨ q11 = 2 ∨ q11 = 3 := by omega
            clear q11a q11b
            rcases hq4 with rfl | rfl | rfl | rfl
            · have HZ := Lib.hid (WSt.lit HS.out.2.1 HS.out.2.2 [] (by simp))
              go_wp2
              go_ret
              exact RetV.mk _ rfl (HZ.out.ret (by simp) (fun h => absurd h (by omega)) (by omega))
            · skip
              have hown12 := HS.out.1
              have hsz12 := HS.out.2.1.size
              go_wp2_with (at_builtin; refine wpList_app_lit _ rfl _ _ 23 rfl 3 (.int .i64 0) 1 8 Try.underlying23 info_int rfl (by decide) (by decide) rfl hown12 1 (ints [16]) rfl rfl (ints_one _) rfl ?c112 ?c212 ?_)
              case c112 => first | omega | (simp only [List.length_append]; omega) | (simp; omega)
              case c212 => omega
              intro v' w12 h5 h6 _
              obtain ⟨a12, cap12, zs12, hz12, rfl, HS12⟩ := HS.out.app h5 h6 hg (by simp)
              have HZ12 := Lib.hid hz12
              have lz12 : zs12.length ≤ xs9.length + 1 := by rw [hz12]; simp
              have lw12 : xs9.length + 1 ≤ zs12.length := by rw [hz12]; simp
              clear h5 h6 HS hown12 hz12
              have HS := Lib.hid HS12
              clear HS12
              go_wp2
              go_ret
              exact RetV.mk _ rfl (HS.out.ret (by omega) (fun h => absurd h (by omega)) (by omega))
            · have hlt := HS.out.2.2.lt
              go_wp2_with fail
              refine (pick_any g _ 4 _ (HS.out.2.2.al _) (by omega)).mono ?_
              rintro e w12 ⟨x6, rfl, i6, ho, hr⟩
              obtain ⟨i6, i6'⟩ := i6.lt (by omega)
              have K4 := hop3 ho hlt
              replace HS := Lib.hid (HS.out.read (ho.grew (Grew.al _ (Grew.refl _))) hr hg)
              clear ho hr
              obtain ⟨z, rfl⟩ : ∃ z : Nat, x6 = z := ⟨x6.toNat, by omega⟩
              obtain ⟨q, hq⟩ := four_get z (by omega)
              have hcell := (K4.cell z).trans hq
              clear K4 hq
              have hown13 := HS.out.1
              have hsz13 := HS.out.2.1.size
              go_wp2_with (at_builtin; refine wpList_app_lit _ rfl _ _ 23 rfl 3 (.int .i64 0) 1 8 Try.underlying23 info_int rfl (by decide) (by decide) rfl hown13 1 (ints [q]) rfl rfl (ints_one _) rfl ?c113 ?c213 ?_)
              case c113 => first | omega | (simp only [List.length_append]; omega) | (simp; omega)
              case c213 => omega
              intro v' w13 h5 h6 _
              obtain ⟨a13, cap13, zs13, hz13, rfl, HS13⟩ := HS.out.app h5 h6 hg (by simp)
              have HZ13 := Lib.hid hz13
              have lz13 : zs13.length ≤ xs9.length + 1 := by rw [hz13]; simp
              have lw13 : xs9.length + 1 ≤ zs13.length := by rw [hz13]; simp
              clear h5 h6 HS hown13 hz13
              have HS := Lib.hid HS13
              clear HS13
              go_wp2
              go_ret
              exact RetV.mk _ rfl (HS.out.ret (by omega) (fun h => absurd h (by omega)) (by omega))
            · go_wp2
              have HS0 := HS
              clear HS
              go_loopw [7] (fun v wr => ∃ (a : Option Addr) (cap : Nat) (zs : List Int), v = .slice a zs.length cap ∧ zs.length ≤ 17 ∧ Hid (WSt g (c + 3 + cc + 2) w wr (.slice a zs.length cap) zs)) (fun v _ => 18 - slLen v)
              case atStart => exact ⟨_, _, xs9, rfl, by omega, Lib.hid (HS0.out.mono (by omega))⟩
              case round =>
                obtain ⟨a2, cap2, zs, rfl, hz, HS⟩ := hrel
                by_cases hz2 : zs.length ≤ 16
                · skip
                  have hown14 := HS.out.1
                  have hsz14 := HS.out.2.1.size
                  go_wp2_with (at_builtin; refine wpList_app_lit _ rfl _ _ 23 rfl 3 (.int .i64 0) 1 8 Try.underlying23 info_int rfl (by decide) (by decide) rfl hown14 1 (ints [200]) rfl rfl (ints_one _) rfl ?c114 ?c214 ?_)
                  case c114 => first | omega | (simp only [List.length_append]; omega) | (simp; omega)
                  case c214 => omega
                  intro v' w14 h5 h6 _
                  obtain ⟨a14, cap14, zs14, hz14, rfl, HS14⟩ := HS.out.app h5 h6 hg (by simp)
                  have HZ14 := Lib.hid hz14
                  have lz14 : zs14.length ≤ zs.length + 1 := by rw [hz14]; simp
                  have lw14 : zs.length + 1 ≤ zs14.length := by rw [hz14]; simp
                  clear h5 h6 HS hown14 hz14
                  have HS := Lib.hid HS14
                  clear HS14
                  go_wp2
                  go_roundw
                  case rel => exact ⟨_, _, zs14, rfl, by omega, HS⟩
                  case measure => simp [slLen]; omega
                · go_wp2
                  go_ret
                  exact RetV.mk _ rfl (HS.out.ret (by omega) (fun h => absurd h (by omega)) (by omega))

theorem words0 (g c : Nat) (n : Int) (w : World) (h : Rd g w c) (hc : c ≤ 1010000) (hn : n ≤ 1000) : Calls Try.prog 12 #[.pointer (some ⟨g, 0, none⟩), .int .i64 0, .int .i64 n] w (RetV fun v w' => WordsR g (c + 24) n w v w') :=
  words_step 1010000 0 0 (by omega) (by omega) (by omega) (fun h => absurd h (by omega)) g c n w h hc hn
theorem words1 (g c : Nat) (n : Int) (w : World) (h : Rd g w c) (hc : c ≤ 1005000) (hn : n ≤ 1000) : Calls Try.prog 12 #[.pointer (some ⟨g, 0, none⟩), .int .i64 1, .int .i64 n] w (RetV fun v w' => WordsR g (c + 72) n w v w') :=
  words_step 1005000 1 24 (by omega) (by omega) (by omega) (fun _ g c w h hc => words0 g c 0 w h (by omega) (by omega)) g c n w h hc hn
theorem l20Words_any (g c : Nat) (n : Int) (w : World) (h : Rd g w c) (hc : c ≤ 1000000) (hn : n ≤ 1000) : Calls Try.prog 12 #[.pointer (some ⟨g, 0, none⟩), .int .i64 2, .int .i64 n] w (RetV fun v w' => WordsR g (c + 168) n w v w') :=
  words_step 1000000 2 72 (by omega) (by omega) (by omega) (fun _ g c w h hc => words1 g c 0 w h (by omega) (by omega)) g c n w h hc hn
end Go.Proofs.Ytoondakdjhhehaa
