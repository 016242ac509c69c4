/-
  Texts of walks and plain lemmas for this seat; no condition.
-/
import Derived.Test.YtjpndimhegfbnaaGreatDoorKRead2
namespace Go.Proofs.YtjpndimhegfbnaaGreatDoor
open Go.RowKit

theorem star_open {es e : List Int} {s r : List UInt8} (h : starP es s = (e, r)) : (isHead 42 s = false ∧ e = es ∧ r = s) ∨ (isHead 42 s = true ∧ starP (es ++ [21]) s.tail = (e, r)) := by
  cases s with
  | nil => simp [starP] at h; exact .inl ⟨rfl, h.1.symm, h.2⟩
  | cons c t =>
    simp only [starP] at h
    split at h
    · rename_i hc
      exact .inr ⟨by simp [isHead]; omega, h⟩
    · rename_i hc
      injection h with h1 h2
      exact .inl ⟨by simp [isHead]; omega, h1.symm, h2.symm⟩
theorem loop_open {sign : Nat} {op : Int} {part : PR} {m : Nat} {es e : List Int} {s r : List UInt8} (h : loopP sign op part m es s = some (e, r)) :
    (isHead sign s = false ∧ e = es ∧ r = s) ∨ (isHead sign s = true ∧ ∃ e1 r1 m', part s.tail = some (e1, r1) ∧ loopP sign op part m' (es ++ e1 ++ [op]) r1 = some (e, r)) := by
  cases s with
  | nil => cases m <;> (simp [loopP] at h; exact .inl ⟨rfl, h.1.symm, h.2⟩)
  | cons c t =>
    cases m with
    | zero =>
      simp only [loopP] at h
      split at h
      · cases h
      · rename_i hc
        injection h with h
        injection h with h1 h2
        exact .inl ⟨by simp [isHead]; omega, h1.symm, h2.symm⟩
    | succ m =>
      simp only [loopP] at h
      split at h
      · rename_i hc
        simp only [Option.bind_eq_some_iff] at h
        obtain ⟨⟨e1, r1⟩, h1, h2⟩ := h
        exact .inr ⟨by simp [isHead]; omega, e1, r1, m, h1, h2⟩
      · rename_i hc
        injection h with h
        injection h with h1 h2
        exact .inl ⟨by simp [isHead]; omega, h1.symm, h2.symm⟩
theorem tail_len {c : Int} {s : List UInt8} (h : isHead c s = true) : s.tail.length + 1 = s.length := by
  cases s with
  | nil => cases h
  | cons => simp
theorem OwnI.eqv {lo hi e n : Nat} {w : World} {v : Value} {xs ys : List Int} {vs : List Value} (h : Own 1 lo hi e w v n vs) (h1 : vs = ints ys) (h2 : n = ys.length) (h3 : xs = ys) : OwnI lo hi e w v xs := by
  subst h1 h2 h3
  exact h

theorem OwnI.app2 {lo hi e cap : Nat} {w : World} {a : Option Addr} {xs ys : List Int} (h : Own 1 lo hi e w (.slice a (xs.length + ys.length) cap) (xs.length + ys.length) (ints xs ++ ints ys)) : OwnI lo hi e w (.slice a (xs ++ ys).length cap) (xs ++ ys) := by
  unfold OwnI
  rw [List.length_append, ints_append]
  exact h
theorem OwnI.app3 {lo hi e cap : Nat} {w : World} {a : Option Addr} {xs ys zs : List Int} (h : Own 1 lo hi e w (.slice a (xs.length + ys.length + zs.length) cap) (xs.length + ys.length + zs.length) (ints xs ++ (ints ys ++ ints zs))) : OwnI lo hi e w (.slice a (xs ++ ys ++ zs).length cap) (xs ++ ys ++ zs) := by
  unfold OwnI
  rw [List.length_append, List.length_append, ints_append, ints_append, List.append_assoc]
  exact h

set_option maxRecDepth 100000 in
set_option maxHeartbeats 3200000 in
theorem starred_reads (single : PR) (n : Nat) (hsh : Short single) (hpart : Reads 156 single n) : Reads 146 (starredP single) n := by
  intro B g w txt s e r hk hn hB hM hp
  have hg := hk.lt
  simp only [starredP, Option.map_eq_some_iff] at hp
  obtain ⟨⟨e1, r1⟩, hp1, hp2⟩ := hp
  have hlen := hsh _ _ _ hp1
  have h199 := hk.2.2.2
  have hslen := hk.2.2.1
  go_enter Tryz.func146, Tryz.ntmps146
  go_wp2_with fail
  refine (hpart B g w txt s e1 r1 hk hn hB hM hp1).mono ?_
  rintro e' w1 ⟨v1, rfl, hown, hk1, ho⟩
  obtain ⟨a1, cap1, rfl, _⟩ := Own.open hown
  have H := Lib.hid (And.intro hown (And.intro hk1 (And.intro ho (show starP e1 r1 = (e, r) from hp2))))
  clear hk hM hp1 hp2 hown hk1 ho hpart hsh
  go_wp2
  go_loopw [3] (fun v wr => ∃ (a : Option Addr) (cap : Nat) (es : List Int) (s' : List UInt8), v = .slice a es.length cap ∧ es.length + s'.length ≤ 199 ∧ Hid (OwnI w.heap.size wr.heap.size 3 wr (.slice a es.length cap) es ∧ KR g wr txt s' ∧ Outside g (g + 1) w wr ∧ starP es s' = (e, r))) (fun v _ => 400 - slLen v)
  case atStart => exact ⟨a1, cap1, e1, r1, rfl, by omega, H⟩
  case round =>
    obtain ⟨a, cap, es, s', rfl, hl, HR⟩ := hrel
    clear H
    rcases star_open HR.out.2.2.2 with ⟨q, rfl, rfl⟩ | ⟨q, hq⟩
    · go_wp2_with fail
      refine (take_any g _ txt _ 42 HR.out.2.1).mono ?_
      rintro e' w2 ⟨b, rfl, rfl, hk, ho⟩
      rw [q] at hk ⊢
      have HR2 := Lib.hid (And.intro ((HR.out.1.outside ho (.inr (by omega))).wide2' ho.size) (And.intro hk (HR.out.2.2.1.trans ho)))
      clear hk ho
      go_wp2
      go_ret
      exact RetV.mk _ rfl ⟨HR2.out.1, HR2.out.2.1, HR2.out.2.2⟩
    · have HQ := Lib.hid hq
      have htl := tail_len q
      go_wp2_with fail
      refine (take_any g _ txt _ 42 HR.out.2.1).mono ?_
      rintro e' w2 ⟨b, rfl, rfl, hk, ho⟩
      rw [q] at hk ⊢
      have HR2 := Lib.hid (And.intro ((HR.out.1.outside ho (.inr (by omega))).wide2' ho.size) (And.intro (show KR g w2 txt s'.tail from hk) (HR.out.2.2.1.trans ho)))
      clear hk ho hq q HR
      have hown := HR2.out.1
      have hsz := HR2.out.2.2.size
      go_wp2_with (at_builtin; refine wpList_app_lit _ rfl _ _ 22 rfl 3 (.int .i64 0) 1 8 Tryz.underlying22 info_int rfl (by decide) (by decide) rfl hown 1 (ints [21]) rfl rfl (ints_one _) rfl ?c1 ?c2 ?_)
      case c1 => omega
      case c2 => omega
      intro v' w5 hown5 hout5 _
      obtain ⟨a', cap', rfl, _⟩ := Own.open hown5
      have H3 := Lib.hid (And.intro hown5 hout5)
      clear hown hown5 hout5
      go_wp2
      go_roundw
      case rel =>
        refine ⟨a', cap', es ++ [21], s'.tail, by simp, by simp; omega, Lib.hid ⟨OwnI.app2 H3.out.1, HR2.out.2.1.outside H3.out.2 hg, HR2.out.2.2.fresh H3.out.2 (Nat.le_refl _), HQ.out⟩⟩
      case measure => simp [slLen]; omega

set_option maxRecDepth 100000 in
set_option maxHeartbeats 3200000 in
theorem product_reads (part : PR) (n : Nat) (hsh : Short part) (hpart : Reads 146 part n) : Reads 138 (chainP 59 19 part) n := by
  intro B g w txt s e r hk hn hB hM hp
  have hg := hk.lt
  simp only [chainP, Option.bind_eq_some_iff] at hp
  obtain ⟨⟨e1, r1⟩, hp1, hp2⟩ := hp
  have hlen := hsh _ _ _ hp1
  have h199 := hk.2.2.2
  have hslen := hk.2.2.1
  have HM := Lib.hid hM
  have HP := Lib.hid hpart
  have HS := Lib.hid hsh
  go_enter Tryz.func138, Tryz.ntmps138
  go_wp2_with fail
  refine (hpart B g w txt s e1 r1 hk hn hB hM hp1).mono ?_
  rintro e' w1 ⟨v1, rfl, hown, hk1, ho⟩
  obtain ⟨a1, cap1, rfl, _⟩ := Own.open hown
  have H := Lib.hid (And.intro hown (And.intro hk1 (And.intro ho (Exists.intro (p := fun m => loopP 59 19 part m e1 r1 = some (e, r)) r1.length hp2))))
  clear hk hM hp1 hp2 hown hk1 ho hpart hsh
  go_wp2
  go_loopw [3] (fun v wr => ∃ (a : Option Addr) (cap : Nat) (es : List Int) (s' : List UInt8), v = .slice a es.length cap ∧ es.length + s'.length ≤ 199 ∧ s'.length ≤ n ∧ Hid (OwnI w.heap.size wr.heap.size 3 wr (.slice a es.length cap) es ∧ KR g wr txt s' ∧ Outside g (g + 1) w wr ∧ ∃ m, loopP 59 19 part m es s' = some (e, r))) (fun v _ => 400 - slLen v)
  case atStart => exact ⟨a1, cap1, e1, r1, rfl, by omega, by omega, H⟩
  case round =>
    obtain ⟨a, cap, es, s', rfl, hl, hl2, HR⟩ := hrel
    clear H
    obtain ⟨m, hm⟩ := HR.out.2.2.2
    rcases loop_open hm with ⟨q, rfl, rfl⟩ | ⟨q, e2, r2, m', hq1, hq2⟩
    · clear hm
      go_wp2_with fail
      refine (take_any g _ txt _ 59 HR.out.2.1).mono ?_
      rintro e' w2 ⟨b, rfl, rfl, hk, ho⟩
      rw [show isHead 59 _ = false from q] at hk ⊢
      have HR2 := Lib.hid (And.intro ((HR.out.1.outside ho (.inr (by omega))).wide2' ho.size) (And.intro hk (HR.out.2.2.1.trans ho)))
      clear hk ho
      go_wp2
      go_ret
      exact RetV.mk _ rfl ⟨HR2.out.1, HR2.out.2.1, HR2.out.2.2⟩
    · have HQ1 := Lib.hid hq1
      have HQ2 := Lib.hid hq2
      have htl := tail_len q
      have hsh2 := HS.out _ _ _ hq1
      clear hm
      go_wp2_with fail
      refine (take_any g _ txt _ 59 HR.out.2.1).mono ?_
      rintro e' w2 ⟨b, rfl, rfl, hk, ho⟩
      rw [show isHead 59 s' = true from q] at hk ⊢
      have HR2 := Lib.hid (And.intro ((HR.out.1.outside ho (.inr (by omega))).wide2' ho.size) (And.intro (show KR g w2 txt s'.tail from hk) (HR.out.2.2.1.trans ho)))
      clear hk ho hq1 hq2 q HR
      go_wp2_with fail
      refine (HP.out B g w2 txt s'.tail e2 r2 HR2.out.2.1 (by omega) hB (HM.out.outside HR2.out.2.2 hB) HQ1.out).mono ?_
      rintro e' w3 ⟨v3, rfl, hown3, hk, ho⟩
      have hsz2 := HR2.out.2.2.size
      have HX := Lib.hid hown3.sl
      have HR3 := Lib.hid (And.intro ((HR2.out.1.outside ho (.inr (by omega))).wide2' ho.size) (And.intro hk (HR2.out.2.2.trans ho)))
      clear hk ho HR2 hown3
      have hown := HR3.out.1
      have hsz := HR3.out.2.2.size
      go_wp2_with (at_builtin; refine wpList_app_sl rfl _ _ 22 rfl 3 (.int .i64 0) 1 8 Tryz.underlying22 info_int rfl (by decide) (by decide) rfl hown rfl HX.out (ints_one _) ?c1 ?c2 ?_)
      case c1 => omega
      case c2 => omega
      intro v4 w4 hown4 _ hout4 _
      have HR4 := Lib.hid (And.intro hown4 (And.intro (HR3.out.2.1.outside hout4 hg) (HR3.out.2.2.fresh hout4 (Nat.le_refl _))))
      clear hown hown4 hout4 HR3 HX
      have hown := HR4.out.1
      have hsz4 := HR4.out.2.2.size
      go_wp2_with (at_builtin; refine wpList_app_lit _ rfl _ _ 22 rfl 3 (.int .i64 0) 1 8 Tryz.underlying22 info_int rfl (by decide) (by decide) rfl hown 1 (ints [19]) rfl rfl (ints_one _) rfl ?c1 ?c2 ?_)
      case c1 => omega
      case c2 => omega
      intro v' w5 hown5 hout5 _
      obtain ⟨a', cap', rfl, _⟩ := Own.open hown5
      have H3 := Lib.hid (And.intro hown5 hout5)
      clear hown hown5 hout5
      go_wp2
      go_roundw
      case rel =>
        exact ⟨a', cap', es ++ e2 ++ [19], r2, by first | (simp; done) | (simp; omega), by simp; omega, by omega, Lib.hid ⟨OwnI.app3 H3.out.1, HR4.out.2.1.outside H3.out.2 hg, HR4.out.2.2.fresh H3.out.2 (Nat.le_refl _), m', HQ2.out⟩⟩
      case measure => simp [slLen]; omega

set_option maxRecDepth 100000 in
set_option maxHeartbeats 3200000 in
theorem sum_reads (part : PR) (n : Nat) (hsh : Short part) (hpart : Reads 138 part n) : Reads 130 (chainP 43 20 part) n := by
  intro B g w txt s e r hk hn hB hM hp
  have hg := hk.lt
  simp only [chainP, Option.bind_eq_some_iff] at hp
  obtain ⟨⟨e1, r1⟩, hp1, hp2⟩ := hp
  have hlen := hsh _ _ _ hp1
  have h199 := hk.2.2.2
  have hslen := hk.2.2.1
  have HM := Lib.hid hM
  have HP := Lib.hid hpart
  have HS := Lib.hid hsh
  go_enter Tryz.func130, Tryz.ntmps130
  go_wp2_with fail
  refine (hpart B g w txt s e1 r1 hk hn hB hM hp1).mono ?_
  rintro e' w1 ⟨v1, rfl, hown, hk1, ho⟩
  obtain ⟨a1, cap1, rfl, _⟩ := Own.open hown
  have H := Lib.hid (And.intro hown (And.intro hk1 (And.intro ho (Exists.intro (p := fun m => loopP 43 20 part m e1 r1 = some (e, r)) r1.length hp2))))
  clear hk hM hp1 hp2 hown hk1 ho hpart hsh
  go_wp2
  go_loopw [3] (fun v wr => ∃ (a : Option Addr) (cap : Nat) (es : List Int) (s' : List UInt8), v = .slice a es.length cap ∧ es.length + s'.length ≤ 199 ∧ s'.length ≤ n ∧ Hid (OwnI w.heap.size wr.heap.size 3 wr (.slice a es.length cap) es ∧ KR g wr txt s' ∧ Outside g (g + 1) w wr ∧ ∃ m, loopP 43 20 part m es s' = some (e, r))) (fun v _ => 400 - slLen v)
  case atStart => exact ⟨a1, cap1, e1, r1, rfl, by omega, by omega, H⟩
  case round =>
    obtain ⟨a, cap, es, s', rfl, hl, hl2, HR⟩ := hrel
    clear H
    obtain ⟨m, hm⟩ := HR.out.2.2.2
    rcases loop_open hm with ⟨q, rfl, rfl⟩ | ⟨q, e2, r2, m', hq1, hq2⟩
    · clear hm
      go_wp2_with fail
      refine (take_any g _ txt _ 43 HR.out.2.1).mono ?_
      rintro e' w2 ⟨b, rfl, rfl, hk, ho⟩
      rw [show isHead 43 _ = false from q] at hk ⊢
      have HR2 := Lib.hid (And.intro ((HR.out.1.outside ho (.inr (by omega))).wide2' ho.size) (And.intro hk (HR.out.2.2.1.trans ho)))
      clear hk ho
      go_wp2
      go_ret
      exact RetV.mk _ rfl ⟨HR2.out.1, HR2.out.2.1, HR2.out.2.2⟩
    · have HQ1 := Lib.hid hq1
      have HQ2 := Lib.hid hq2
      have htl := tail_len q
      have hsh2 := HS.out _ _ _ hq1
      clear hm
      go_wp2_with fail
      refine (take_any g _ txt _ 43 HR.out.2.1).mono ?_
      rintro e' w2 ⟨b, rfl, rfl, hk, ho⟩
      rw [show isHead 43 s' = true from q] at hk ⊢
      have HR2 := Lib.hid (And.intro ((HR.out.1.outside ho (.inr (by omega))).wide2' ho.size) (And.intro (show KR g w2 txt s'.tail from hk) (HR.out.2.2.1.trans ho)))
      clear hk ho hq1 hq2 q HR
      go_wp2_with fail
      refine (HP.out B g w2 txt s'.tail e2 r2 HR2.out.2.1 (by omega) hB (HM.out.outside HR2.out.2.2 hB) HQ1.out).mono ?_
      rintro e' w3 ⟨v3, rfl, hown3, hk, ho⟩
      have hsz2 := HR2.out.2.2.size
      have HX := Lib.hid hown3.sl
      have HR3 := Lib.hid (And.intro ((HR2.out.1.outside ho (.inr (by omega))).wide2' ho.size) (And.intro hk (HR2.out.2.2.trans ho)))
      clear hk ho HR2 hown3
      have hown := HR3.out.1
      have hsz := HR3.out.2.2.size
      go_wp2_with (at_builtin; refine wpList_app_sl rfl _ _ 22 rfl 3 (.int .i64 0) 1 8 Tryz.underlying22 info_int rfl (by decide) (by decide) rfl hown rfl HX.out (ints_one _) ?c1 ?c2 ?_)
      case c1 => omega
      case c2 => omega
      intro v4 w4 hown4 _ hout4 _
      have HR4 := Lib.hid (And.intro hown4 (And.intro (HR3.out.2.1.outside hout4 hg) (HR3.out.2.2.fresh hout4 (Nat.le_refl _))))
      clear hown hown4 hout4 HR3 HX
      have hown := HR4.out.1
      have hsz4 := HR4.out.2.2.size
      go_wp2_with (at_builtin; refine wpList_app_lit _ rfl _ _ 22 rfl 3 (.int .i64 0) 1 8 Tryz.underlying22 info_int rfl (by decide) (by decide) rfl hown 1 (ints [20]) rfl rfl (ints_one _) rfl ?c1 ?c2 ?_)
      case c1 => omega
      case c2 => omega
      intro v' w5 hown5 hout5 _
      obtain ⟨a', cap', rfl, _⟩ := Own.open hown5
      have H3 := Lib.hid (And.intro hown5 hout5)
      clear hown hown5 hout5
      go_wp2
      go_roundw
      case rel =>
        exact ⟨a', cap', es ++ e2 ++ [20], r2, by first | (simp; done) | (simp; omega), by simp; omega, by omega, Lib.hid ⟨OwnI.app3 H3.out.1, HR4.out.2.1.outside H3.out.2 hg, HR4.out.2.2.fresh H3.out.2 (Nat.le_refl _), m', HQ2.out⟩⟩
      case measure => simp [slLen]; omega

theorem sumP_reads : ∀ n, Reads 130 (sumP n) n
  | 0 => by intro B g w txt s e r hk hn hB hM hp; cases hp
  | n + 1 => sum_reads _ _ (chain_short (starred_short (single_short (sum_short n)))) (product_reads _ _ (starred_short (single_short (sum_short n))) (starred_reads _ _ (single_short (sum_short n)) (single_reads _ _ (sumP_reads n))))
end Go.Proofs.YtjpndimhegfbnaaGreatDoor
