/-
  Texts of walks and plain lemmas for this seat; no condition.
-/
import Derived.Test.YtjpndimhegfbnaaGreatDoorSGreat
import Derived.Test.YtjpndimhegfbnaaGreatDoorRules
import Derived.Test.YtjpndimhegfbnaaGreatDoorNum
import Derived.Test.YtjpndimhegfbnaaGreatDoorOwnM
namespace Go.Proofs.YtjpndimhegfbnaaGreatDoor
open Go.RowKit

theorem sum_greats : ∀ n, GreatR (sumP n) 1 n
  | 0 => by intro w txt s n deep e r hT hl hd hp; cases hp
  | n + 1 => great1_reads _ _ (chain_short (starred_short (single_short (sum_short n)))) (great2_reads _ _ (starred_short (single_short (sum_short n))) (great3_reads _ _ (small_reads _ _ (sum_short n) (sum_greats n))))

set_option maxRecDepth 100000 in
set_option maxHeartbeats 1600000 in
theorem spec_ReadKat (txt : List UInt8) (e : List Int) (s : ByteArray) (hs : s = ⟨txt.toArray⟩) (w : World) (hl : txt.length ≤ 98) (hp : sumP txt.length txt = some (e, [])) (hv : katV e = true) :
    Calls Tryz.prog 96 #[.string s] w (RetV fun x w' => ∃ v, x = .tuple #[v, .bool true] ∧ Below w.heap.size w w' ∧ OwnI w.heap.size w'.heap.size 3 w' v e) := by
  subst hs
  have HC := Lib.hid (sum_greats txt.length w txt txt 0 0 e [] ⟨by simp, by simp⟩ (by omega) (by omega) hp)
  have helen : e.length ≤ 1048576 := by have := sum_short txt.length _ _ _ hp; simp at this; omega
  clear hp
  go_enter Tryz.func96, Tryz.ntmps96
  go_wp2_with fail
  refine HC.out.mono ?_
  rintro e' w1 ⟨v, n, rfl, hT, hb, hown⟩
  have hn : n = txt.length := by have := hT.2; simpa using this
  subst hn
  obtain ⟨a, cap, rfl, _⟩ := Own.open hown
  have HI := Lib.hid (And.intro hb hown)
  clear hb hown hT HC
  go_wp2_with fail
  refine (spec_KatValid _ _ _ e _ HI.out.2.sl helen).mono ?_
  rintro e' w2 ⟨rfl, rfl⟩
  rw [hv]
  go_wp2
  refine bodyPost_ret (v := .tuple #[.slice a e.length cap, .bool true]) (by simp [results, Tryz.results96, go_sem]) rfl ⟨_, rfl, _, rfl, HI.out.1, HI.out.2⟩

theorem convC (w : World) (x : Nat) :
    Sem.run Tryz.prog (convert 30 9 (.slice (some ⟨w.heap.size, 0, none⟩) 1 1)) (w.alloc (.cells #[.int .u8 (x : Int)] 5)) = .ok (.string ⟨#[UInt8.ofNat x]⟩) (w.alloc (.cells #[.int .u8 (x : Int)] 5)) := by
  have h := conv_lit (P := Tryz.prog) 30 9 5 Tryz.underlying30 Tryz.underlying5 Tryz.underlying9 w [(x : Int)]
  simp only [List.length_cons, List.length_nil, List.map_cons, List.map_nil, Nat.zero_add, Int.toNat_natCast] at h
  exact h
theorem map_take_next {txt : List UInt8} {k : Nat} (h : k < txt.length) : (txt.take (k + 1)).map repl8 = (txt.take k).map repl8 ++ [repl8 txt[k]] := by
  rw [List.map_take, List.map_take, List.take_add_one, List.getElem?_eq_getElem (by simpa using h)]
  simp

set_option maxRecDepth 100000 in
set_option maxHeartbeats 3200000 in
theorem l9Side_any (txt : List UInt8) (e : List Int) (w : World) (hl : txt.length ≤ 98) (hp : sumP txt.length (txt.map repl8) = some (e, [])) (hv : katV e = true) :
    Calls Tryz.prog 70 #[.string ⟨txt.toArray⟩] w (RetV fun v w' => Below w.heap.size w w' ∧ OwnI w.heap.size w'.heap.size 3 w' v (e.map toVar)) := by
  have HP := Lib.hid hp
  have helen : e.length ≤ 98 := by have := sum_short txt.length _ _ _ hp; simp at this; omega
  clear hp
  go_enter Tryz.func70, Tryz.ntmps70
  go_wp2
  go_loopw [3, 4] (fun s i wr => ∃ (k : Nat) (l : List UInt8), k ≤ txt.length ∧ i = .int .i64 k ∧ s = .string ⟨l.toArray⟩ ∧ l.length ≤ 98 ∧ Hid (l = (txt.take k).map repl8 ∧ Below w.heap.size w wr)) (fun _ i _ => txt.length - (intOf i).toNat)
  case atStart => exact ⟨0, [], by omega, rfl, rfl, by simp, Lib.hid ⟨rfl, Below.refl _ _⟩⟩
  case round =>
    obtain ⟨k, l, hk, rfl, rfl, hll, HR⟩ := hrel
    by_cases hlt : k < txt.length
    · obtain ⟨c, hc⟩ : ∃ c, c = txt[k] := ⟨_, rfl⟩
      have hget : ∀ hh : k < (ByteArray.mk txt.toArray).size, (ByteArray.mk txt.toArray)[k]'hh = c := fun _ => hc.symm
      have hll2 : l.length = k := by rw [HR.out.1]; simp; omega
      have hlt2 : (k : Int) < txt.length := by omega
      have hcl : c.toNat < 256 := c.toNat_lt
      have HN := Lib.hid (map_take_next hlt)
      rw [← hc] at HN
      have hl2 : (l ++ [repl8 c]).length ≤ 98 := by simp; omega
      have HNX : Hid (l ++ [repl8 c] = (txt.take (k + 1)).map repl8 ∧ Below w.heap.size w (wr.alloc (.cells #[.int .u8 (replC c.toNat : Nat)] 5))) := Lib.hid ⟨by rw [HN.out, HR.out.1], HR.out.2.alloc HR.out.2.size _⟩
      have hcv := convC wr (replC c.toNat)
      have hcat := cat1 l (UInt8.ofNat (replC c.toNat)) (l ++ [repl8 c]) rfl
      clear hc HN
      by_cases h1 : 120 ≤ c.toNat ∧ c.toNat ≤ 122
      · have hrc : ((replC c.toNat : Nat) : Int) = 97 + c.toNat - 120 := by
          unfold replC
          split
          · omega
          · split
            · omega
            · split <;> omega
        have i1 : (120 : Int) ≤ c.toNat := by omega
        have i2 : (c.toNat : Int) ≤ 122 := by omega
        rw [hrc] at hcv HNX
        go_wp2
        go_roundw
        case rel => exact ⟨k + 1, l ++ [repl8 c], by omega, by go_num, rfl, hl2, HNX⟩
        case measure => simp [intOf]; omega
      · have hrc : ((replC c.toNat : Nat) : Int) = c.toNat := by
          unfold replC
          split
          · omega
          · split
            · omega
            · split <;> omega
        rw [hrc] at hcv HNX
        have hcmp : ((120 : Int) ≤ c.toNat ∧ ¬ (c.toNat : Int) ≤ 122) ∨ ¬ (120 : Int) ≤ c.toNat := by omega
        clear h1
        rcases hcmp with ⟨i1, i2⟩ | i1
        all_goals (
          go_wp2
          go_roundw
          case rel => exact ⟨k + 1, l ++ [repl8 c], by omega, by go_num, rfl, hl2, HNX⟩
          case measure => simp [intOf]; omega)
    · obtain rfl : k = txt.length := by omega
      have hlm : l = txt.map repl8 := by rw [HR.out.1, List.take_length]
      subst hlm
      have HB := Lib.hid HR.out.2
      clear HR
      go_wp2_with fail
      refine (spec_ReadKat (txt.map repl8) e _ rfl wr (by simpa using hl) (by rw [List.length_map]; exact HP.out) hv).mono ?_
      rintro e' w1 ⟨_, rfl, v, rfl, hb, hown⟩
      have hs1 := hb.size
      have hsw := HB.out.size
      obtain ⟨a, cap, rfl, hcap, hcm, hc⟩ := hown.sl.open
      have HX := Lib.hid hown.sl
      obtain ⟨w2, hw2⟩ : ∃ w2, w2 = w1.alloc (.cells #[] 3) := ⟨_, rfl⟩
      have hb2 : Below w1.heap.size w1 w2 := by rw [hw2]; exact (Below.refl _ _).alloc (Nat.le_refl _) _
      have hlit : OwnI w1.heap.size (w1.heap.size + 1) 3 w2 (.slice (some ⟨w1.heap.size, 0, none⟩) 0 0) [] := by rw [hw2]; exact Own.lit 1 3 w1 [] 0 (by omega) rfl
      have hs2 : w2.heap.size = w1.heap.size + 1 := by rw [hw2]; simp
      have HI := Lib.hid (And.intro (hlit.lower (Nat.le_refl _) (by omega : w1.heap.size + 1 ≤ w2.heap.size)) (And.intro (HB.out.trans ((hb.trans (hb2.mono hs1)).mono hsw)) (Outside.of_below (lo := w1.heap.size) (hi := w2.heap.size) hb2 (Nat.le_refl _))))
      have HW2 := Lib.hid hw2
      clear hb hown hb2 hlit hw2 HB
      go_wp2
      simp only [← HW2.out]
      go_loopw [8, 9] (fun o i wx => ∃ (j : Nat) (a' : Option Addr) (cap' : Nat), j ≤ e.length ∧ i = .int .i64 j ∧ o = .slice a' j cap' ∧ Hid (Own 1 w1.heap.size wx.heap.size 3 wx (.slice a' j cap') j (ints ((e.map toVar).take j)) ∧ Below w.heap.size w wx ∧ Outside w1.heap.size wx.heap.size w1 wx)) (fun _ i _ => e.length - (intOf i).toNat)
      case atStart => exact ⟨0, some ⟨w1.heap.size, 0, none⟩, 0, by omega, rfl, rfl, Lib.hid ⟨HI.out.1, HI.out.2.1, HI.out.2.2⟩⟩
      case round =>
        obtain ⟨j, a', cap', hj, rfl, rfl, HR⟩ := hrel
        by_cases hje : j < e.length
        · have hXR := HX.out.outside HR.out.2.2 (.inl (Nat.le_refl _))
          obtain ⟨b, off, rfl, _, _, _, hcell⟩ := hXR.get j hje
          have hje2 : (j : Int) < e.length := by omega
          have hjm : j < (e.map toVar).length := by simpa using hje
          have hnx : ints ((e.map toVar).take (j + 1)) = ints ((e.map toVar).take j) ++ ints [toVar e[j]] := by
            rw [← ints_append]
            congr 1
            rw [List.take_add_one, List.getElem?_eq_getElem hjm]
            simp
          have HN := Lib.hid hnx
          have hown := HR.out.1
          have hsx := HR.out.2.2.size
          clear hXR hnx hc
          cases hq : inB e[j] 16 18
          · have hty : toVar e[j] = e[j] := by unfold toVar; rw [show isActB e[j] = false from hq]; rfl
            have HTY := Lib.hid hty
            clear hty
            go_wp2_with (first | (go_at_call 69; refine (l1In_any _ _ _ _).mono ?_; rintro e w' ⟨rfl, rfl⟩) | (at_builtin; refine wpList_app_lit _ rfl _ _ 22 rfl 3 (.int .i64 0) 1 8 Tryz.underlying22 info_int rfl (by decide) (by decide) rfl hown 1 (ints [e[j]]) rfl rfl (ints_one _) rfl ?c1 ?c2 ?_))
            case c1 => omega
            case c2 => omega
            intro v' w5 hown5 hout5 _
            obtain ⟨a5, cap5, rfl, _⟩ := Own.open hown5
            have hs5 := hout5.size
            have H5 := Lib.hid (And.intro hown5 (And.intro (Below.outside HR.out.2.1 hout5 (by omega) HR.out.2.1.size) (HR.out.2.2.trans (hout5.wide (Nat.le_refl _) (Nat.le_refl _)))))
            clear hown hown5 hout5
            go_wp2
            go_roundw
            case rel => exact ⟨j + 1, a5, cap5, by omega, by go_num, rfl, Lib.hid ⟨by rw [HN.out, HTY.out]; exact H5.out.1, H5.out.2.1, H5.out.2.2.wide (Nat.le_refl _) hs5⟩⟩
            case measure => simp [intOf]; omega
          · have hty : toVar e[j] = -1 - (e[j] - 16) := by unfold toVar; rw [show isActB e[j] = true from hq]; rfl
            have hbd : 16 ≤ e[j] ∧ e[j] ≤ 18 := by simpa [inB] using hq
            obtain ⟨b16, b18⟩ := hbd
            have HTY := Lib.hid hty
            clear hty
            go_wp2_with (first | (go_at_call 69; refine (l1In_any _ _ _ _).mono ?_; rintro e w' ⟨rfl, rfl⟩) | (at_builtin; refine wpList_app_lit _ rfl _ _ 22 rfl 3 (.int .i64 0) 1 8 Tryz.underlying22 info_int rfl (by decide) (by decide) rfl hown 1 (ints [-1 - (e[j] - 16)]) rfl rfl (ints_one _) rfl ?c1 ?c2 ?_))
            case c1 => omega
            case c2 => omega
            intro v' w5 hown5 hout5 _
            obtain ⟨a5, cap5, rfl, _⟩ := Own.open hown5
            have hs5 := hout5.size
            have H5 := Lib.hid (And.intro hown5 (And.intro (Below.outside HR.out.2.1 hout5 (by omega) HR.out.2.1.size) (HR.out.2.2.trans (hout5.wide (Nat.le_refl _) (Nat.le_refl _)))))
            clear hown hown5 hout5
            go_wp2
            go_roundw
            case rel => exact ⟨j + 1, a5, cap5, by omega, by go_num, rfl, Lib.hid ⟨by rw [HN.out, HTY.out]; exact H5.out.1, H5.out.2.1, H5.out.2.2.wide (Nat.le_refl _) hs5⟩⟩
            case measure => simp [intOf]; omega
        · obtain rfl : j = e.length := by omega
          have h := HR.out.1
          rw [List.take_of_length_le (by simp)] at h
          go_wp2
          go_ret
          exact RetV.mk _ rfl ⟨HR.out.2.1, OwnI.len (n := e.length) (Own.wide2 h (by omega) (Nat.le_refl _)) (by simp)⟩
end Go.Proofs.YtjpndimhegfbnaaGreatDoor
