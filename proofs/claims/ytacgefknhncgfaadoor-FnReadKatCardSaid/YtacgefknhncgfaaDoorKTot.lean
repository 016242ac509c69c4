/-
  Texts of walks and plain lemmas for this seat; no condition.
-/
import Derived.Test.YtacgefknhncgfaaDoorGB
import Derived.Test.YtacgefknhncgfaaDoorParF
import Derived.Test.YtacgefknhncgfaaDoorTxtP
import Derived.Deep.QuietTactic
import Derived.BigQuiet
import Derived.Lib.FrozenHead2
namespace Go.Proofs.YtacgefknhncgfaaDoor
open Go.RowKit
set_option linter.unusedVariables false

/-! The reader, at any text: it reads as the plain one, or it panics. -/
def wrongP : List PanicEntry := [{ v := .iface 38 (.agg #[]), recovered := false }]
def ReadTot (p : PR) (g : Nat) (w : World) (txt s : List UInt8) (e' : Ending) (w' : World) : Prop :=
  (∃ e r, p s = some (e, r) ∧ ReadR g w txt e r e' w') ∨ (p s = none ∧ e' = .panicked wrongP ∧ Outside g (g + 1) w w')
def Tot (f : FuncId) (p : PR) (n : Nat) : Prop := ∀ (B g : Nat) (w : World) (txt s : List UInt8), KR g w txt s → s.length < n → B ≤ g → MapB B w → Calls Tryd.prog f #[.pointer (some ⟨g, 0, none⟩)] w (ReadTot p g w txt s)

theorem star_next {es : List Int} {s : List UInt8} : (isHead 42 s = false → starP es s = (es, s)) ∧ (isHead 42 s = true → starP es s = starP (es ++ [21]) s.tail) := by
  cases s with
  | nil => exact ⟨fun _ => rfl, fun h => by cases h⟩
  | cons c t =>
    refine ⟨fun h => ?_, fun h => ?_⟩
    · simp only [isHead, beq_eq_false_iff_ne, ne_eq] at h
      rw [starP, if_neg (by omega)]
    · simp only [isHead, beq_iff_eq] at h
      rw [starP, if_pos (by omega)]
      rfl
theorem loop_no {sign : Nat} {op : Int} {part : PR} {m : Nat} {es : List Int} {s : List UInt8} (h : isHead sign s = false) : loopP sign op part m es s = some (es, s) := by
  cases s with
  | nil => cases m <;> rfl
  | cons c t =>
    simp only [isHead, beq_eq_false_iff_ne, ne_eq] at h
    cases m with
    | zero => rw [loopP, if_neg (by omega)]
    | succ m => rw [loopP, if_neg (by omega)]
theorem loop_yes {sign : Nat} {op : Int} {part : PR} {m : Nat} {es : List Int} {s : List UInt8} (h : isHead sign s = true) : loopP sign op part (m + 1) es s = (part s.tail).bind fun x => loopP sign op part m (es ++ x.1 ++ [op]) x.2 := by
  cases s with
  | nil => cases h
  | cons c t =>
    simp only [isHead, beq_iff_eq] at h
    rw [loopP, if_pos (by omega)]
    rfl

set_option maxRecDepth 100000 in
set_option maxHeartbeats 3200000 in
theorem starred_tot (single : PR) (n : Nat) (hsh : Short single) (hpart : Tot 47 single n) : Tot 39 (starredP single) n := by
  intro B g w txt s hk hn hB hM
  have hg := hk.lt
  have h199 := hk.2.2.2
  have hslen := hk.2.2.1
  go_enter Tryd.func39, Tryd.ntmps39
  go_wp2_with fail
  refine (hpart B g w txt s hk hn hB hM).mono ?_
  rintro e' w1 (⟨e1, r1, hp1, v1, rfl, hown, hk1, ho⟩ | ⟨hp1, rfl, ho⟩)
  rotate_left
  · exact ⟨rfl, .inr ⟨by simp [starredP, hp1], rfl, ho⟩⟩
  have hlen := hsh _ _ _ hp1
  have HP := Lib.hid (show starredP single s = some (starP e1 r1) by simp [starredP, hp1])
  obtain ⟨a1, cap1, rfl, _⟩ := Own.open hown
  have H := Lib.hid (And.intro hown (And.intro hk1 (And.intro ho (show starredP single s = some (starP e1 r1) from HP.out))))
  clear hk hM hp1 hown hk1 ho hpart hsh
  go_wp2
  go_loopw [3] (fun v wr => ∃ (a : Option Addr) (cap : Nat) (es : List Int) (s' : List UInt8), v = .slice a es.length cap ∧ es.length + s'.length ≤ 199 ∧ Hid (OwnI w.heap.size wr.heap.size 3 wr (.slice a es.length cap) es ∧ KR g wr txt s' ∧ Outside g (g + 1) w wr ∧ starredP single s = some (starP es s'))) (fun v _ => 400 - slLen v)
  case atStart => exact ⟨a1, cap1, e1, r1, rfl, by omega, H⟩
  case round =>
    obtain ⟨a, cap, es, s', rfl, hl, HR⟩ := hrel
    clear H
    cases q : isHead 42 s'
    · have HF := Lib.hid (show starredP single s = some (es, s') by rw [HR.out.2.2.2, star_next.1 q])
      go_wp2_with fail
      refine (take_any g _ txt _ 42 HR.out.2.1).mono ?_
      rintro e' w2 ⟨b, rfl, rfl, hk, ho⟩
      rw [q] at hk ⊢
      have HR2 := Lib.hid (And.intro ((HR.out.1.outside ho (.inr (by omega))).wide2' ho.size) (And.intro (show KR g w2 txt s' from hk) (HR.out.2.2.1.trans ho)))
      clear hk ho
      go_wp2
      go_ret
      exact .inl ⟨es, s', HF.out, RetV.mk _ rfl ⟨HR2.out.1, HR2.out.2.1, HR2.out.2.2⟩⟩
    · have HQ := Lib.hid (show starredP single s = some (starP (es ++ [21]) s'.tail) by rw [HR.out.2.2.2, star_next.2 q])
      have htl := tail_len q
      go_wp2_with fail
      refine (take_any g _ txt _ 42 HR.out.2.1).mono ?_
      rintro e' w2 ⟨b, rfl, rfl, hk, ho⟩
      rw [q] at hk ⊢
      have HR2 := Lib.hid (And.intro ((HR.out.1.outside ho (.inr (by omega))).wide2' ho.size) (And.intro (show KR g w2 txt s'.tail from hk) (HR.out.2.2.1.trans ho)))
      clear hk ho q HR
      have hown := HR2.out.1
      have hsz := HR2.out.2.2.size
      go_wp2_with (at_builtin; refine wpList_app_lit _ rfl _ _ 24 rfl 3 (.int .i64 0) 1 8 Tryd.underlying24 info_int rfl (by decide) (by decide) rfl hown 1 (ints [21]) rfl rfl (ints_one _) rfl ?c1 ?c2 ?_)
      case c1 => omega
      case c2 => omega
      intro v' w5 hown5 hout5 _
      obtain ⟨a', cap', rfl, _⟩ := Own.open hown5
      have H3 := Lib.hid (And.intro hown5 hout5)
      clear hown hown5 hout5
      go_wp2
      go_roundw
      case rel =>
        refine ⟨a', cap', es ++ [21], s'.tail, by simp, by simp; omega, Lib.hid ⟨OwnI.app2 H3.out.1, HR2.out.2.1.outside H3.out.2 hg, HR2.out.2.2.fresh H3.out.2 (Nat.le_refl _), HQ.out⟩⟩
      case measure => simp [slLen]; omega

set_option maxRecDepth 100000 in
set_option maxHeartbeats 3200000 in
theorem product_tot (part : PR) (n : Nat) (hsh : Short part) (hpart : Tot 39 part n) : Tot 27 (chainP 59 19 part) n := by
  intro B g w txt s hk hn hB hM
  have hg := hk.lt
  have h199 := hk.2.2.2
  have hslen := hk.2.2.1
  have HM := Lib.hid hM
  have HP := Lib.hid hpart
  have HS := Lib.hid hsh
  go_enter Tryd.func27, Tryd.ntmps27
  go_wp2_with fail
  refine (hpart B g w txt s hk hn hB hM).mono ?_
  rintro e' w1 (⟨e1, r1, hp1, v1, rfl, hown, hk1, ho⟩ | ⟨hp1, rfl, ho⟩)
  rotate_left
  · exact ⟨rfl, .inr ⟨by simp [chainP, hp1], rfl, ho⟩⟩
  have hlen := hsh _ _ _ hp1
  have HPP := Lib.hid (show chainP 59 19 part s = loopP 59 19 part r1.length e1 r1 by simp [chainP, hp1])
  obtain ⟨a1, cap1, rfl, _⟩ := Own.open hown
  have H := Lib.hid (And.intro hown (And.intro hk1 (And.intro ho (show chainP 59 19 part s = loopP 59 19 part r1.length e1 r1 from HPP.out))))
  clear hk hM hp1 hown hk1 ho hpart hsh
  go_wp2
  go_loopw [3] (fun v wr => ∃ (a : Option Addr) (cap : Nat) (es : List Int) (s' : List UInt8) (m : Nat), v = .slice a es.length cap ∧ es.length + s'.length ≤ 199 ∧ s'.length < n ∧ s'.length ≤ m ∧ Hid (OwnI w.heap.size wr.heap.size 3 wr (.slice a es.length cap) es ∧ KR g wr txt s' ∧ Outside g (g + 1) w wr ∧ chainP 59 19 part s = loopP 59 19 part m es s')) (fun v _ => 400 - slLen v)
  case atStart => exact ⟨a1, cap1, e1, r1, r1.length, rfl, by omega, by omega, Nat.le_refl _, H⟩
  case round =>
    obtain ⟨a, cap, es, s', m, rfl, hl, hl2, hlm, HR⟩ := hrel
    clear H
    cases q : isHead 59 s'
    · have HF := Lib.hid (show chainP 59 19 part s = some (es, s') by rw [HR.out.2.2.2, loop_no q])
      go_wp2_with fail
      refine (take_any g _ txt _ 59 HR.out.2.1).mono ?_
      rintro e' w2 ⟨b, rfl, rfl, hk, ho⟩
      rw [show isHead 59 s' = false from q] at hk ⊢
      have HR2 := Lib.hid (And.intro ((HR.out.1.outside ho (.inr (by omega))).wide2' ho.size) (And.intro (show KR g w2 txt s' from hk) (HR.out.2.2.1.trans ho)))
      clear hk ho
      go_wp2
      go_ret
      exact .inl ⟨es, s', HF.out, RetV.mk _ rfl ⟨HR2.out.1, HR2.out.2.1, HR2.out.2.2⟩⟩
    · have htl := tail_len q
      obtain ⟨m, rfl⟩ : ∃ i, m = i + 1 := ⟨m - 1, by omega⟩
      have HQ := Lib.hid (show chainP 59 19 part s = (part s'.tail).bind fun x => loopP 59 19 part m (es ++ x.1 ++ [19]) x.2 by rw [HR.out.2.2.2, loop_yes q])
      go_wp2_with fail
      refine (take_any g _ txt _ 59 HR.out.2.1).mono ?_
      rintro e' w2 ⟨b, rfl, rfl, hk, ho⟩
      rw [show isHead 59 s' = true from q] at hk ⊢
      have HR2 := Lib.hid (And.intro ((HR.out.1.outside ho (.inr (by omega))).wide2' ho.size) (And.intro (show KR g w2 txt s'.tail from hk) (HR.out.2.2.1.trans ho)))
      clear hk ho q HR
      go_wp2_with fail
      refine (HP.out B g w2 txt s'.tail HR2.out.2.1 (by omega) hB (HM.out.outside HR2.out.2.2 hB)).mono ?_
      rintro e' w3 (⟨e2, r2, hp2, v3, rfl, hown3, hk, ho⟩ | ⟨hp2, rfl, ho⟩)
      rotate_left
      · exact ⟨rfl, .inr ⟨by rw [HQ.out, hp2]; rfl, rfl, HR2.out.2.2.trans ho⟩⟩
      have hsh2 := HS.out _ _ _ hp2
      have HQ2 := Lib.hid (show chainP 59 19 part s = loopP 59 19 part m (es ++ e2 ++ [19]) r2 by rw [HQ.out, hp2]; rfl)
      have hsz2 := HR2.out.2.2.size
      have HX := Lib.hid hown3.sl
      have HR3 := Lib.hid (And.intro ((HR2.out.1.outside ho (.inr (by omega))).wide2' ho.size) (And.intro hk (HR2.out.2.2.trans ho)))
      clear hk ho HR2 hown3 hp2 HQ
      have hown := HR3.out.1
      have hsz := HR3.out.2.2.size
      go_wp2_with (at_builtin; refine wpList_app_sl rfl _ _ 24 rfl 3 (.int .i64 0) 1 8 Tryd.underlying24 info_int rfl (by decide) (by decide) rfl hown rfl HX.out (ints_one _) ?c1 ?c2 ?_)
      case c1 => omega
      case c2 => omega
      intro v4 w4 hown4 _ hout4 _
      have HR4 := Lib.hid (And.intro hown4 (And.intro (HR3.out.2.1.outside hout4 hg) (HR3.out.2.2.fresh hout4 (Nat.le_refl _))))
      clear hown hown4 hout4 HR3 HX
      have hown := HR4.out.1
      have hsz4 := HR4.out.2.2.size
      go_wp2_with (at_builtin; refine wpList_app_lit _ rfl _ _ 24 rfl 3 (.int .i64 0) 1 8 Tryd.underlying24 info_int rfl (by decide) (by decide) rfl hown 1 (ints [19]) rfl rfl (ints_one _) rfl ?c1 ?c2 ?_)
      case c1 => omega
      case c2 => omega
      intro v' w5 hown5 hout5 _
      obtain ⟨a', cap', rfl, _⟩ := Own.open hown5
      have H3 := Lib.hid (And.intro hown5 hout5)
      clear hown hown5 hout5
      go_wp2
      go_roundw
      case rel =>
        exact ⟨a', cap', es ++ e2 ++ [19], r2, m, by first | (simp; done) | (simp; omega), by simp; omega, by omega, by omega, Lib.hid ⟨OwnI.app3 H3.out.1, HR4.out.2.1.outside H3.out.2 hg, HR4.out.2.2.fresh H3.out.2 (Nat.le_refl _), HQ2.out⟩⟩
      case measure => simp [slLen]; omega

set_option maxRecDepth 100000 in
set_option maxHeartbeats 3200000 in
theorem sum_tot (part : PR) (n : Nat) (hsh : Short part) (hpart : Tot 27 part n) : Tot 16 (chainP 43 20 part) n := by
  intro B g w txt s hk hn hB hM
  have hg := hk.lt
  have h199 := hk.2.2.2
  have hslen := hk.2.2.1
  have HM := Lib.hid hM
  have HP := Lib.hid hpart
  have HS := Lib.hid hsh
  go_enter Tryd.func16, Tryd.ntmps16
  go_wp2_with fail
  refine (hpart B g w txt s hk hn hB hM).mono ?_
  rintro e' w1 (⟨e1, r1, hp1, v1, rfl, hown, hk1, ho⟩ | ⟨hp1, rfl, ho⟩)
  rotate_left
  · exact ⟨rfl, .inr ⟨by simp [chainP, hp1], rfl, ho⟩⟩
  have hlen := hsh _ _ _ hp1
  have HPP := Lib.hid (show chainP 43 20 part s = loopP 43 20 part r1.length e1 r1 by simp [chainP, hp1])
  obtain ⟨a1, cap1, rfl, _⟩ := Own.open hown
  have H := Lib.hid (And.intro hown (And.intro hk1 (And.intro ho (show chainP 43 20 part s = loopP 43 20 part r1.length e1 r1 from HPP.out))))
  clear hk hM hp1 hown hk1 ho hpart hsh
  go_wp2
  go_loopw [3] (fun v wr => ∃ (a : Option Addr) (cap : Nat) (es : List Int) (s' : List UInt8) (m : Nat), v = .slice a es.length cap ∧ es.length + s'.length ≤ 199 ∧ s'.length < n ∧ s'.length ≤ m ∧ Hid (OwnI w.heap.size wr.heap.size 3 wr (.slice a es.length cap) es ∧ KR g wr txt s' ∧ Outside g (g + 1) w wr ∧ chainP 43 20 part s = loopP 43 20 part m es s')) (fun v _ => 400 - slLen v)
  case atStart => exact ⟨a1, cap1, e1, r1, r1.length, rfl, by omega, by omega, Nat.le_refl _, H⟩
  case round =>
    obtain ⟨a, cap, es, s', m, rfl, hl, hl2, hlm, HR⟩ := hrel
    clear H
    cases q : isHead 43 s'
    · have HF := Lib.hid (show chainP 43 20 part s = some (es, s') by rw [HR.out.2.2.2, loop_no q])
      go_wp2_with fail
      refine (take_any g _ txt _ 43 HR.out.2.1).mono ?_
      rintro e' w2 ⟨b, rfl, rfl, hk, ho⟩
      rw [show isHead 43 s' = false from q] at hk ⊢
      have HR2 := Lib.hid (And.intro ((HR.out.1.outside ho (.inr (by omega))).wide2' ho.size) (And.intro (show KR g w2 txt s' from hk) (HR.out.2.2.1.trans ho)))
      clear hk ho
      go_wp2
      go_ret
      exact .inl ⟨es, s', HF.out, RetV.mk _ rfl ⟨HR2.out.1, HR2.out.2.1, HR2.out.2.2⟩⟩
    · have htl := tail_len q
      obtain ⟨m, rfl⟩ : ∃ i, m = i + 1 := ⟨m - 1, by omega⟩
      have HQ := Lib.hid (show chainP 43 20 part s = (part s'.tail).bind fun x => loopP 43 20 part m (es ++ x.1 ++ [20]) x.2 by rw [HR.out.2.2.2, loop_yes q])
      go_wp2_with fail
      refine (take_any g _ txt _ 43 HR.out.2.1).mono ?_
      rintro e' w2 ⟨b, rfl, rfl, hk, ho⟩
      rw [show isHead 43 s' = true from q] at hk ⊢
      have HR2 := Lib.hid (And.intro ((HR.out.1.outside ho (.inr (by omega))).wide2' ho.size) (And.intro (show KR g w2 txt s'.tail from hk) (HR.out.2.2.1.trans ho)))
      clear hk ho q HR
      go_wp2_with fail
      refine (HP.out B g w2 txt s'.tail HR2.out.2.1 (by omega) hB (HM.out.outside HR2.out.2.2 hB)).mono ?_
      rintro e' w3 (⟨e2, r2, hp2, v3, rfl, hown3, hk, ho⟩ | ⟨hp2, rfl, ho⟩)
      rotate_left
      · exact ⟨rfl, .inr ⟨by rw [HQ.out, hp2]; rfl, rfl, HR2.out.2.2.trans ho⟩⟩
      have hsh2 := HS.out _ _ _ hp2
      have HQ2 := Lib.hid (show chainP 43 20 part s = loopP 43 20 part m (es ++ e2 ++ [20]) r2 by rw [HQ.out, hp2]; rfl)
      have hsz2 := HR2.out.2.2.size
      have HX := Lib.hid hown3.sl
      have HR3 := Lib.hid (And.intro ((HR2.out.1.outside ho (.inr (by omega))).wide2' ho.size) (And.intro hk (HR2.out.2.2.trans ho)))
      clear hk ho HR2 hown3 hp2 HQ
      have hown := HR3.out.1
      have hsz := HR3.out.2.2.size
      go_wp2_with (at_builtin; refine wpList_app_sl rfl _ _ 24 rfl 3 (.int .i64 0) 1 8 Tryd.underlying24 info_int rfl (by decide) (by decide) rfl hown rfl HX.out (ints_one _) ?c1 ?c2 ?_)
      case c1 => omega
      case c2 => omega
      intro v4 w4 hown4 _ hout4 _
      have HR4 := Lib.hid (And.intro hown4 (And.intro (HR3.out.2.1.outside hout4 hg) (HR3.out.2.2.fresh hout4 (Nat.le_refl _))))
      clear hown hown4 hout4 HR3 HX
      have hown := HR4.out.1
      have hsz4 := HR4.out.2.2.size
      go_wp2_with (at_builtin; refine wpList_app_lit _ rfl _ _ 24 rfl 3 (.int .i64 0) 1 8 Tryd.underlying24 info_int rfl (by decide) (by decide) rfl hown 1 (ints [20]) rfl rfl (ints_one _) rfl ?c1 ?c2 ?_)
      case c1 => omega
      case c2 => omega
      intro v' w5 hown5 hout5 _
      obtain ⟨a', cap', rfl, _⟩ := Own.open hown5
      have H3 := Lib.hid (And.intro hown5 hout5)
      clear hown hown5 hout5
      go_wp2
      go_roundw
      case rel =>
        exact ⟨a', cap', es ++ e2 ++ [20], r2, m, by first | (simp; done) | (simp; omega), by simp; omega, by omega, by omega, Lib.hid ⟨OwnI.app3 H3.out.1, HR4.out.2.1.outside H3.out.2 hg, HR4.out.2.2.fresh H3.out.2 (Nat.le_refl _), HQ2.out⟩⟩
      case measure => simp [slLen]; omega
end Go.Proofs.YtacgefknhncgfaaDoor
