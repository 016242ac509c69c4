/-
  Texts of walks and plain lemmas for this seat; no condition.
-/
import Derived.Test.YtoondakdjhhehaaDoorDWords
import Derived.Test.YtoondakdjhhehaaDoorSCode
import Derived.Laws.OwnMore
import Derived.Deep.DeepCutAuto
import Derived.IntWalk
namespace Go.Proofs.YtoondakdjhhehaaDoor
open Go.RowKit
set_option linter.unusedVariables false

/-- A code on its way, and the reader. -/
def ISt (g c : Nat) (w wr : World) (v : Value) (xs : List In3) : Prop := OwnC w.heap.size wr.heap.size 33 wr v xs ∧ Outside g (g + 1) w wr ∧ Rd g wr c
theorem ISt.mono {g c c' : Nat} {w wr : World} {v : Value} {xs : List In3} (h : ISt g c w wr v xs) (hc : c ≤ c') : ISt g c' w wr v xs := ⟨h.1, h.2.1, h.2.2.mono hc⟩
theorem ISt.read {g c c' : Nat} {w wr wy : World} {v : Value} {xs : List In3} (h : ISt g c w wr v xs) (ho : Outside g (g + 1) wr wy) (hr : Rd g wy c') (hg : g < w.heap.size) : ISt g c' w wy v xs :=
  ⟨Own.wide2 (h.1.outside ho (.inr (by omega))) (Nat.le_refl _) ho.size, h.2.1.trans ho, hr⟩
theorem ISt.app {g c n : Nat} {w wr wy : World} {v v' : Value} {xs ys : List In3} (h : ISt g c w wr v xs) (h5 : Own 3 w.heap.size wy.heap.size 33 wy v' n (inss xs ++ inss ys)) (h6 : Outside w.heap.size wr.heap.size wr wy) (hg : g < w.heap.size) (hn : n = xs.length + ys.length) :
    ∃ a cap zs, zs = xs ++ ys ∧ v' = .slice a zs.length cap ∧ ISt g c w wy (.slice a zs.length cap) zs := by
  obtain ⟨a, cap, rfl, _⟩ := Own.open h5
  have hl : n = (xs ++ ys).length := by simp [hn]
  refine ⟨a, cap, xs ++ ys, rfl, by rw [hl], ?_⟩
  have ho : OwnC w.heap.size wy.heap.size 33 wy (.slice a n cap) (xs ++ ys) := OwnC.len (n := n) (by rw [inss_append]; exact h5) hl
  rw [← hl]
  exact ⟨ho, h.2.1.fresh h6 (Nat.le_refl _), h.2.2.outside h6 hg⟩
theorem ISt.lit {g c : Nat} {w wr : World} (ho : Outside g (g + 1) w wr) (hr : Rd g wr c) (xs : List In3) (hx : xs.length ≤ 100) : ISt g c w (wr.alloc (.cells (inss xs).toArray 33)) (.slice (some ⟨wr.heap.size, 0, none⟩) xs.length xs.length) xs := by
  have h0 := Own.lit 3 33 wr (inss xs) xs.length (by omega) (inss_length xs)
  have hs := ho.size
  exact ⟨Own.wide2 h0 hs (by simp), ho.below (al_below _ _) hs, hr.al _⟩
/-- What comes back. -/
def InsR (g c : Nat) (w : World) (v : Value) (w' : World) : Prop := ∃ xs : List In3, OwnC w.heap.size w'.heap.size 33 w' v xs ∧ xs.length ≤ 60 ∧ Outside g (g + 1) w w' ∧ Rd g w' c
theorem ISt.ret {g c c' : Nat} {w wr : World} {v : Value} {xs : List In3} (h : ISt g c w wr v xs) (hl : xs.length ≤ 60) (hc : c ≤ c') : InsR g c' w v wr := ⟨xs, h.1, hl, h.2.1, h.2.2.mono hc⟩
theorem inss_put (xs : List In3) (x : In3) (r : In3) (ys : List In3) (h : xs = r :: ys) : (((inss xs).set 0 (.int .i64 x.kind)).set 1 (.int .i64 x.arg)).set 2 (.int .i64 x.to) = inss (x :: ys) := by
  subst h
  simp [inss, encI]
/-- The first instruction is stored anew. -/
theorem ISt.put {g c n cap : Nat} {w wr : World} {a : Option Addr} {xs : List In3} (h : ISt g c w wr (.slice a n cap) xs) (hn : n = xs.length) (h1 : 1 ≤ xs.length) (hg : g < w.heap.size) (x : In3) :
    ∃ b zs, a = some ⟨b, 0, none⟩ ∧ b < wr.heap.size ∧ (∀ j, wr.frozen? ⟨b, j, none⟩ = false) ∧ (∃ u0 u1 u2, wr.cell? ⟨b, 0, none⟩ = some u0 ∧ wr.cell? ⟨b, 1, none⟩ = some u1 ∧ wr.cell? ⟨b, 2, none⟩ = some u2) ∧ zs.length = xs.length ∧
      ISt g c w (((wr.setCell ⟨b, 0, none⟩ (.int .i64 x.kind)).setCell ⟨b, 1, none⟩ (.int .i64 x.arg)).setCell ⟨b, 2, none⟩ (.int .i64 x.to)) (.slice a n cap) zs := by
  subst hn
  obtain ⟨hown, hO, hR⟩ := h
  obtain ⟨a', cap', e, hc1, hc2, hl, hb⟩ := Own.open hown
  injection e with ea _ ec
  subst ea ec
  obtain ⟨b, rfl, hb1, hb2⟩ := hb (by omega)
  obtain ⟨b', off', e2, _, _, hbw, q0, q1, q2⟩ := (OwnC.sl hown).get 0 (by omega)
  injection e2 with e2
  injection e2 with e3 e4
  subst e3 e4
  simp only [Nat.zero_mul, Nat.zero_add] at q0 q1 q2
  obtain ⟨r, ys, hxs⟩ : ∃ r ys, xs = r :: ys := by
    cases xs with
    | nil => simp at h1
    | cons r ys => exact ⟨r, ys, rfl⟩
  have hfr : ∀ j, wr.frozen? ⟨b, j, none⟩ = false := by
    intro j
    obtain ⟨⟨_, h1⟩, _⟩ := hown
    rcases h1 with ⟨h1, _⟩ | ⟨g', cap', cur, e1, _, hg', _⟩
    · cases h1
    · simp only [Value.slice.injEq, Option.some.injEq, Addr.mk.injEq, and_true] at e1
      obtain ⟨rfl, _⟩ := e1
      simp [World.frozen?, hg']
  refine ⟨b, x :: ys, rfl, hbw, hfr, ⟨_, _, _, q0, q1, q2⟩, by simp [hxs], ?_⟩
  have s0 := World.ownsRow.stored hown.1 0 (.int .i64 x.kind)
  have s1 := World.ownsRow.stored s0.1 1 (.int .i64 x.arg)
  have s2 := World.ownsRow.stored s1.1 2 (.int .i64 x.to)
  have hO3 : Outside w.heap.size wr.heap.size wr (((wr.setCell ⟨b, 0, none⟩ (.int .i64 x.kind)).setCell ⟨b, 1, none⟩ (.int .i64 x.arg)).setCell ⟨b, 2, none⟩ (.int .i64 x.to)) :=
    ((((Outside.refl _ _ _).setCell (p := ⟨b, 0, none⟩) hb1 hb2 _).setCell (p := ⟨b, 1, none⟩) hb1 hb2 _).setCell (p := ⟨b, 2, none⟩) hb1 hb2 _)
  refine ⟨?_, hO.fresh hO3 (Nat.le_refl _), hR.outside hO3 hg⟩
  have h3 := s2.1
  rw [inss_put xs x r ys hxs] at h3
  have hln : (x :: ys).length = xs.length := by simp [hxs]
  refine ⟨?_, fun g' hg' => ?_⟩
  · rw [hln]
    exact h3
  · simp [Value.ownBlock] at hg'
    subst hg'
    exact Nat.lt_of_lt_of_le hb2 hO3.size

set_option maxRecDepth 100000 in
set_option maxHeartbeats 12800000 in
theorem l20Instructions_any (g c : Nat) (n : Int) (w : World) (h : Rd g w c) (hc : c ≤ 900000) (hn : n ≤ 1000) :
    Calls Tryd.prog 37 #[.pointer (some ⟨g, 0, none⟩), .int .i64 n] w (RetV fun v w' => InsR g (c + 400) w v w') := by
  have hg := h.lt
  go_enter Tryd.func37, Tryd.ntmps37
  go_wp2_with fail
  refine (l20Words_any g c 0 _ h (by omega) (by omega)).mono ?_
  rintro e w1 ⟨_, rfl, xs, ho, hl60, hgw, h_, r_⟩
  obtain ⟨T, hT, hTp, hT16⟩ := hgw (by omega)
  obtain ⟨xa, xc, rfl, _, _⟩ := Sl.shape ho.sl
  have hs1 := h_.size
  have HX := Lib.hid ho.sl
  have HO := Lib.hid h_
  have HR := Lib.hid r_
  subst hTp
  have hts : T.size ≤ 16 := by rw [← T.post_length]; exact hT16
  have HP := Lib.hid (progC_big hT hts)
  have HPC := Lib.hid (spec_ProgCode w.heap.size w1.heap.size _ T.post w1 HX.out (Nat.le_refl _) (by omega))
  rw [HP.out] at HPC
  have hcl := code_len T 0
  have HCL := Lib.hid hcl
  clear ho hgw h_ r_ h hcl hT hts HP
  go_wp2_with fail
  refine HPC.out.mono ?_
  rintro e w2 ⟨v2, b2, rfl, _, ho, hb⟩
  simp only [Option.getD_some] at ho
  obtain ⟨cs, hcs⟩ : ∃ cs, cs = T.code 0 ++ [endI] := ⟨_, rfl⟩
  have hc1 : 1 ≤ cs.length := by rw [hcs]; simp
  have hc2 : cs.length ≤ 33 := by rw [hcs]; have := HCL.out; simp only [List.length_append, List.length_singleton]; omega
  rw [← hcs] at ho
  obtain ⟨ba, bc, rfl, _, _⟩ := Sl.shape ho.sl
  have hs2 := hb.size
  have HS : Hid (ISt g (c + 168) w w2 (.slice ba cs.length bc) cs) := Lib.hid ⟨Own.wide2 ho hs1 (Nat.le_refl _), HO.out.below hb hs1, HR.out.below hb HR.out.lt⟩
  clear ho hb hcs HPC HO HR HX HCL
  go_wp2_with fail
  refine (pick_any g _ 3 _ HS.out.2.2 (by omega)).mono ?_
  rintro e w3 ⟨q3, rfl, i_, h_, r_⟩
  obtain ⟨q3a, q3b⟩ := i_.lt (by omega)
  replace HS := Lib.hid (HS.out.read h_ r_ hg)
  clear h_ r_ i_
  go_upto_if 17 with fail
  go_cut [5] (fun p wx => ∃ (a : Option Addr) (cap : Nat) (zs : List In3), p = .slice a zs.length cap ∧ 1 ≤ zs.length ∧ zs.length ≤ 40 ∧ Hid (ISt g (c + 300) w wx (.slice a zs.length cap) zs))
  case first =>
    cases hq : q3 == 0
    · go_wp2_with fail
      go_meet
      exact ⟨_, _, cs, rfl, by omega, by omega, Lib.hid (HS.out.mono (by omega))⟩
    · have HL := Lib.hid (ISt.lit HS.out.2.1 HS.out.2.2 [] (by simp))
      obtain ⟨wl, hwl⟩ : ∃ wl, wl = w3.alloc (.cells (inss []).toArray 33) := ⟨_, rfl⟩
      rw [← hwl] at HL
      have HWL : Hid (w3.alloc (.cells #[] 33) = wl) := Lib.hid hwl.symm
      clear hwl HS
      have HS := HL
      clear HL
      go_wp2_with (rw [HWL.out])
      try rw [HWL.out]
      clear hq
      go_wp2_with fail
      refine (pick_any g _ 7 _ HS.out.2.2 (by omega)).mono ?_
      rintro e w7 ⟨q7, rfl, i_, h_, r_⟩
      obtain ⟨q7a, q7b⟩ := i_.lt (by omega)
      replace HS := Lib.hid (HS.out.read h_ r_ hg)
      clear h_ r_ i_
      obtain ⟨many, hmany⟩ : ∃ m : Nat, 1 + q7 = (m : Int) := ⟨(1 + q7).toNat, by omega⟩
      have hm1 : 1 ≤ many := by omega
      have hm7 : many ≤ 7 := by omega
      go_wp2
      try rw [hmany]
      clear hmany
      go_loopw [5, 8] (fun v i wr => ∃ (k : Nat) (a : Option Addr) (cap : Nat) (zs : List In3), v = .slice a zs.length cap ∧ i = .int .i64 k ∧ k ≤ many ∧ zs.length ≤ k ∧ k ≤ zs.length ∧ Hid (ISt g (c + 170 + 12 * k) w wr (.slice a zs.length cap) zs)) (fun _ i _ => many - (intOf i).toNat)
      case atStart => exact ⟨0, _, _, [], rfl, rfl, by omega, by simp, by simp, Lib.hid (HS.out.mono (by omega))⟩
      case round =>
        obtain ⟨k, a, cap, zs, rfl, rfl, hk, hl1, hl2, HQ⟩ := hrel
        clear HS HWL
        have HS := HQ
        clear HQ
        by_cases hlt : k < many
        · skip
          go_wp2_with fail
          refine (pick_any g _ 4 _ HS.out.2.2 (by omega)).mono ?_
          rintro e w4 ⟨q4, rfl, i_, h_, r_⟩
          obtain ⟨q4a, q4b⟩ := i_.lt (by omega)
          replace HS := Lib.hid (HS.out.read h_ r_ hg)
          clear h_ r_ i_
          have hq4 : q4 = 0 ∨ q4 = 1 ∨ q4 = 2 ∨ q4 = 3 := by omega
          clear q4a q4b
          rcases hq4 with rfl | rfl | rfl | rfl
          · skip
            go_wp2_with fail
            refine (pick_any g _ 3 _ HS.out.2.2 (by omega)).mono ?_
            rintro e w5 ⟨q5, rfl, i_, h_, r_⟩
            obtain ⟨q5a, q5b⟩ := i_.lt (by omega)
            replace HS := Lib.hid (HS.out.read h_ r_ hg)
            clear h_ r_ i_
            have e1 : IntKind.i64.wrap (16 + q5) = 16 + q5 := IntWalk.i64_in _ (by omega)
            have hown6 := HS.out.1
            have hsz6 := HS.out.2.1.size
            go_wp2_with (at_builtin; refine wpList_app_lit _ rfl _ _ 26 rfl 33 (.agg #[.int .i64 0, .int .i64 0, .int .i64 0]) 3 24 Tryd.underlying26 info_ins rfl (by decide) (by decide) rfl hown6 1 (inss [⟨0, 16 + q5, 0⟩]) rfl rfl (inss_one _) rfl ?c16 ?c26 ?_)
            case c16 => omega
            case c26 => omega
            intro v' w6 h5 h6 _
            obtain ⟨a6, cap6, zs6, hz6, rfl, HS6⟩ := HS.out.app h5 h6 hg (by simp)
            have lz6 : zs6.length ≤ zs.length + 1 ∧ zs.length + 1 ≤ zs6.length := len_two hz6 rfl rfl
            obtain ⟨lx6, ly6⟩ := lz6
            clear h5 h6 HS hown6 hz6
            have HS := Lib.hid HS6
            clear HS6
            clear e1
            go_wp2
            go_roundw
            case rel => exact ⟨k + 1, _, _, zs6, rfl, by go_num, by omega, by omega, by omega, Lib.hid (HS.out.mono (by omega))⟩
            case measure => simp [intOf]; omega
          · skip
            go_wp2_with fail
            refine (l20Test_any g _ 0 _ HS.out.2.2 (by omega) (by omega)).mono ?_
            rintro e w5 ⟨t, rfl, ⟨ht_, _, _⟩, h_, r_⟩
            obtain ⟨ht0, ht15⟩ := ht_ (by omega)
            replace HS := Lib.hid (HS.out.read h_ r_ hg)
            clear h_ r_ ht_
            have e2 : IntKind.i64.wrap ((many : Int) + 1) = (many : Int) + 1 := IntWalk.i64_in _ (by omega)
            go_wp2_with fail
            refine (pick_any g _ ((many : Int) + 1) _ HS.out.2.2 (by omega)).mono ?_
            rintro e w55 ⟨q5, rfl, i_, h_, r_⟩
            obtain ⟨q5a, q5b⟩ := i_.lt (by omega)
            replace HS := Lib.hid (HS.out.read h_ r_ hg)
            clear h_ r_ i_
            have hown6 := HS.out.1
            have hsz6 := HS.out.2.1.size
            go_wp2_with (at_builtin; refine wpList_app_lit _ rfl _ _ 26 rfl 33 (.agg #[.int .i64 0, .int .i64 0, .int .i64 0]) 3 24 Tryd.underlying26 info_ins rfl (by decide) (by decide) rfl hown6 1 (inss [⟨1, t, q5⟩]) rfl rfl (inss_one _) rfl ?c16 ?c26 ?_)
            case c16 => omega
            case c26 => omega
            intro v' w6 h5 h6 _
            obtain ⟨a6, cap6, zs6, hz6, rfl, HS6⟩ := HS.out.app h5 h6 hg (by simp)
            have lz6 : zs6.length ≤ zs.length + 1 ∧ zs.length + 1 ≤ zs6.length := len_two hz6 rfl rfl
            obtain ⟨lx6, ly6⟩ := lz6
            clear h5 h6 HS hown6 hz6
            have HS := Lib.hid HS6
            clear HS6
            clear e2
            go_wp2
            go_roundw
            case rel => exact ⟨k + 1, _, _, zs6, rfl, by go_num, by omega, by omega, by omega, Lib.hid (HS.out.mono (by omega))⟩
            case measure => simp [intOf]; omega
          · skip
            have e2 : IntKind.i64.wrap ((many : Int) + 1) = (many : Int) + 1 := IntWalk.i64_in _ (by omega)
            go_wp2_with fail
            refine (pick_any g _ ((many : Int) + 1) _ HS.out.2.2 (by omega)).mono ?_
            rintro e w55 ⟨q5, rfl, i_, h_, r_⟩
            obtain ⟨q5a, q5b⟩ := i_.lt (by omega)
            replace HS := Lib.hid (HS.out.read h_ r_ hg)
            clear h_ r_ i_
            have hown6 := HS.out.1
            have hsz6 := HS.out.2.1.size
            go_wp2_with (at_builtin; refine wpList_app_lit _ rfl _ _ 26 rfl 33 (.agg #[.int .i64 0, .int .i64 0, .int .i64 0]) 3 24 Tryd.underlying26 info_ins rfl (by decide) (by decide) rfl hown6 1 (inss [⟨2, 0, q5⟩]) rfl rfl (inss_one _) rfl ?c16 ?c26 ?_)
            case c16 => omega
            case c26 => omega
            intro v' w6 h5 h6 _
            obtain ⟨a6, cap6, zs6, hz6, rfl, HS6⟩ := HS.out.app h5 h6 hg (by simp)
            have lz6 : zs6.length ≤ zs.length + 1 ∧ zs.length + 1 ≤ zs6.length := len_two hz6 rfl rfl
            obtain ⟨lx6, ly6⟩ := lz6
            clear h5 h6 HS hown6 hz6
            have HS := Lib.hid HS6
            clear HS6
            clear e2
            go_wp2
            go_roundw
            case rel => exact ⟨k + 1, _, _, zs6, rfl, by go_num, by omega, by omega, by omega, Lib.hid (HS.out.mono (by omega))⟩
            case measure => simp [intOf]; omega
          · skip
            have hown6 := HS.out.1
            have hsz6 := HS.out.2.1.size
            go_wp2_with (at_builtin; refine wpList_app_lit _ rfl _ _ 26 rfl 33 (.agg #[.int .i64 0, .int .i64 0, .int .i64 0]) 3 24 Tryd.underlying26 info_ins rfl (by decide) (by decide) rfl hown6 1 (inss [endI]) rfl rfl (inss_one _) rfl ?c16 ?c26 ?_)
            case c16 => omega
            case c26 => omega
            intro v' w6 h5 h6 _
            obtain ⟨a6, cap6, zs6, hz6, rfl, HS6⟩ := HS.out.app h5 h6 hg (by simp)
            have lz6 : zs6.length ≤ zs.length + 1 ∧ zs.length + 1 ≤ zs6.length := len_two hz6 rfl rfl
            obtain ⟨lx6, ly6⟩ := lz6
            clear h5 h6 HS hown6 hz6
            have HS := Lib.hid HS6
            clear HS6
            go_wp2
            go_roundw
            case rel => exact ⟨k + 1, _, _, zs6, rfl, by go_num, by omega, by omega, by omega, Lib.hid (HS.out.mono (by omega))⟩
            case measure => simp [intOf]; omega
        · skip
          have hown6 := HS.out.1
          have hsz6 := HS.out.2.1.size
          go_wp2_with (at_builtin; refine wpList_app_lit _ rfl _ _ 26 rfl 33 (.agg #[.int .i64 0, .int .i64 0, .int .i64 0]) 3 24 Tryd.underlying26 info_ins rfl (by decide) (by decide) rfl hown6 1 (inss [endI]) rfl rfl (inss_one _) rfl ?c16 ?c26 ?_)
          case c16 => omega
          case c26 => omega
          intro v' w6 h5 h6 _
          obtain ⟨a6, cap6, zs6, hz6, rfl, HS6⟩ := HS.out.app h5 h6 hg (by simp)
          have lz6 : zs6.length ≤ zs.length + 1 ∧ zs.length + 1 ≤ zs6.length := len_two hz6 rfl rfl
          obtain ⟨lx6, ly6⟩ := lz6
          clear h5 h6 HS hown6 hz6
          have HS := Lib.hid HS6
          clear HS6
          go_wp2
          go_meet
          exact ⟨_, _, zs6, rfl, by omega, by omega, Lib.hid (HS.out.mono (by omega))⟩
  case rest =>
    obtain ⟨a9, cap9, zs9, rfl, hl1, hl2, HS9⟩ := hcut
    obtain ⟨w9, rfl⟩ : ∃ x_, x_ = wc := ⟨_, rfl⟩
    clear HS
    have HS := HS9
    clear HS9
    go_wp2_with fail
    refine (odd_any g _ n _ HS.out.2.2 (by omega) (by omega)).mono ?_
    rintro e w10 ⟨b, rfl, h_, r_⟩
    replace HS := Lib.hid (HS.out.read h_ r_ hg)
    clear h_ r_
    cases b
    · go_wp2
      go_ret
      exact RetV.mk _ rfl (HS.out.ret (by omega) (by omega))
    · skip
      go_wp2_with fail
      refine (pick_any g _ 4 _ HS.out.2.2 (by omega)).mono ?_
      rintro e w11 ⟨q11, rfl, i_, h_, r_⟩
      obtain ⟨q11a, q11b⟩ := i_.lt (by omega)
      replace HS := Lib.hid (HS.out.read h_ r_ hg)
      clear h_ r_ i_
      have hq4 : q11 = 0 ∨ q11 = 1 ∨ q11 = 2 ∨ q11 = 3 := by omega
      clear q11a q11b
      rcases hq4 with rfl | rfl | rfl | rfl
      · have HZ := Lib.hid (ISt.lit HS.out.2.1 HS.out.2.2 [] (by simp))
        go_wp2
        go_ret
        exact RetV.mk _ rfl (HZ.out.ret (by simp) (by omega))
      · skip
        have hown12 := HS.out.1
        have hsz12 := HS.out.2.1.size
        go_wp2_with (at_builtin; refine wpList_app_lit _ rfl _ _ 26 rfl 33 (.agg #[.int .i64 0, .int .i64 0, .int .i64 0]) 3 24 Tryd.underlying26 info_ins rfl (by decide) (by decide) rfl hown12 1 (inss [⟨0, 16, 0⟩]) rfl rfl (inss_one _) rfl ?c112 ?c212 ?_)
        case c112 => omega
        case c212 => omega
        intro v' w12 h5 h6 _
        obtain ⟨a12, cap12, zs12, hz12, rfl, HS12⟩ := HS.out.app h5 h6 hg (by simp)
        have lz12 : zs12.length ≤ zs9.length + 1 ∧ zs9.length + 1 ≤ zs12.length := len_two hz12 rfl rfl
        obtain ⟨lx12, ly12⟩ := lz12
        clear h5 h6 HS hown12 hz12
        have HS := Lib.hid HS12
        clear HS12
        go_wp2
        go_ret
        exact RetV.mk _ rfl (HS.out.ret (by omega) (by omega))
      · have e3 : IntKind.i64.wrap ((zs9.length : Int) + 1) = (zs9.length : Int) + 1 := IntWalk.i64_in _ (by omega)
        have hown12 := HS.out.1
        have hsz12 := HS.out.2.1.size
        go_wp2_with (at_builtin; refine wpList_app_lit _ rfl _ _ 26 rfl 33 (.agg #[.int .i64 0, .int .i64 0, .int .i64 0]) 3 24 Tryd.underlying26 info_ins rfl (by decide) (by decide) rfl hown12 1 (inss [⟨2, 0, (zs9.length : Int) + 1⟩]) rfl rfl (inss_one _) rfl ?c112 ?c212 ?_)
        case c112 => omega
        case c212 => omega
        intro v' w12 h5 h6 _
        obtain ⟨a12, cap12, zs12, hz12, rfl, HS12⟩ := HS.out.app h5 h6 hg (by simp)
        have lz12 : zs12.length ≤ zs9.length + 1 ∧ zs9.length + 1 ≤ zs12.length := len_two hz12 rfl rfl
        obtain ⟨lx12, ly12⟩ := lz12
        clear h5 h6 HS hown12 hz12
        have HS := Lib.hid HS12
        clear HS12
        clear e3
        go_wp2
        go_ret
        exact RetV.mk _ rfl (HS.out.ret (by omega) (by omega))
      · obtain ⟨b, zs, rfl, hbw, hfr, ⟨u0, u1, u2, k0, k1, k2⟩, hzl, HP⟩ := HS.out.put rfl hl1 hg ⟨3, 1, 0⟩
        have f0 := hfr 0
        have f1 := hfr 1
        have f2 := hfr 2
        have HF := Lib.hid hfr
        have HPP := Lib.hid HP
        have hz1 : zs.length ≤ 60 := by omega
        clear hfr HP hzl
        go_wp2
        go_ret
        exact RetV.mk _ rfl (HPP.out.ret hz1 (by omega))
end Go.Proofs.YtoondakdjhhehaaDoor
