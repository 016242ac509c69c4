/-
  Texts of walks and plain lemmas for this seat; no condition.
-/
import Derived.Test.YtjpndimhegfbnaaGreatDoorOnce2
import Derived.Lib.LazyBuf
namespace Go.Proofs.YtjpndimhegfbnaaGreatDoor
open Go.RowKit

def repl8 (c : UInt8) : UInt8 := UInt8.ofNat (replC c.toNat)
theorem replC_lt {c : Nat} (h : c < 256) : replC c < 256 := by
  unfold replC
  split
  · omega
  · split
    · omega
    · split <;> omega
theorem repl8_nat (c : UInt8) : (repl8 c).toNat = replC c.toNat := by
  have h : replC c.toNat < 256 := replC_lt c.toNat_lt
  simp [repl8, UInt8.toNat_ofNat']
  omega
theorem repl8_same {c : UInt8} (h : replC c.toNat = c.toNat) : repl8 c = c := by
  apply UInt8.toNat_inj.1
  rw [repl8_nat, h]

/-- What the copy of the text holds, its first i signs replaced. -/
def Buf (b : Nat) (txt : List UInt8) (i : Nat) (w : World) : Prop :=
  ∃ cs lo hi, w.heap[b]? = some (.cells cs 5 (lo, hi)) ∧ txt.length ≤ cs.size ∧ cs.size ≤ lo ∧ ∀ j (h : j < txt.length), cs[j]? = some (.int .u8 ((if j < i then repl8 txt[j] else txt[j]).toNat : Nat))
theorem Buf.cell {b i : Nat} {txt : List UInt8} {w : World} (h : Buf b txt i w) (j : Nat) (hj : j < txt.length) : w.cell? ⟨b, j, none⟩ = some (.int .u8 ((if j < i then repl8 txt[j] else txt[j]).toNat : Nat)) := by
  obtain ⟨cs, lo, hi, h1, _, _, h2⟩ := h
  rw [World.cell?, h1]
  exact h2 j hj
theorem Buf.free {b i : Nat} {txt : List UInt8} {w : World} (h : Buf b txt i w) (j : Nat) (hj : j < txt.length) : w.frozen? ⟨b, j, none⟩ = false := by
  obtain ⟨cs, lo, hi, h1, h2, h3, _⟩ := h
  simp only [World.frozen?, h1]
  simp
  omega
theorem Buf.next {b i : Nat} {txt : List UInt8} {w : World} (h : Buf b txt i w) (hi : i < txt.length) : Buf b txt (i + 1) (w.setCell ⟨b, i, none⟩ (.int .u8 (replC txt[i].toNat : Nat))) := by
  obtain ⟨cs, lo, h', h1, h2, h3, h4⟩ := h
  refine ⟨cs.setIfInBounds i (.int .u8 (replC txt[i].toNat : Nat)), lo, h', ?_, by simpa using h2, by simpa using h3, fun j hj => ?_⟩
  · simp [World.setCell, Array.getElem?_modify, h1]
  · by_cases hji : j = i
    · subst hji
      rw [Array.getElem?_setIfInBounds_self_of_lt (by omega), if_pos (by omega), repl8_nat]
    · rw [Array.getElem?_setIfInBounds_ne (by omega), h4 j hj]
      by_cases hlt : j < i
      · rw [if_pos hlt, if_pos (by omega)]
      · rw [if_neg hlt, if_neg (by omega)]
theorem Buf.skip {b i : Nat} {txt : List UInt8} {w : World} (h : Buf b txt i w) (hi : i < txt.length) (hs : repl8 txt[i] = txt[i]) : Buf b txt (i + 1) w := by
  obtain ⟨cs, lo, h', h1, h2, h3, h4⟩ := h
  refine ⟨cs, lo, h', h1, h2, h3, fun j hj => ?_⟩
  rw [h4 j hj]
  by_cases hji : j = i
  · subst hji
    rw [if_neg (by omega), if_pos (by omega), hs]
  · by_cases hlt : j < i
    · rw [if_pos hlt, if_pos (by omega)]
    · rw [if_neg hlt, if_neg (by omega)]
/-- A fresh copy of the text. -/
theorem Buf.new (w : World) (txt : List UInt8) (i : Nat) (hs : ∀ j (h : j < txt.length), j < i → repl8 txt[j] = txt[j]) :
    Buf w.heap.size txt i (w.drew.alloc (.cells (bytesRow ⟨txt.toArray⟩ (grownCap w txt.length 0 5)) 5 ((bytesRow ⟨txt.toArray⟩ (grownCap w txt.length 0 5)).size, (bytesRow ⟨txt.toArray⟩ (grownCap w txt.length 0 5)).size + 1))) := by
  refine ⟨_, _, _, heap_alloc_new w.drew _, ?_, Nat.le_refl _, fun j hj => ?_⟩
  · simp [bytesRow]
  · have h1 : (bytesRow ⟨txt.toArray⟩ (grownCap w txt.length 0 5))[j]? = some (.int .u8 (txt[j].toNat : Nat)) := by
      simp [bytesRow, Array.getElem?_append, hj]
    rw [h1]
    by_cases hlt : j < i
    · rw [if_pos hlt, hs j hj hlt]
    · rw [if_neg hlt]

def Same8 (txt : List UInt8) (i : Nat) : Prop := ∀ j (h : j < txt.length), j < i → repl8 txt[j] = txt[j]
theorem map_same {txt : List UInt8} (h : Same8 txt txt.length) : txt.map repl8 = txt := by
  apply List.ext_getElem
  · simp
  · intro j h1 h2
    simpa using h j h2 h2
theorem strOfNums_map (txt : List UInt8) : strOfNums (txt.map fun c => ((repl8 c).toNat : Int)) = ⟨(txt.map repl8).toArray⟩ := by
  unfold strOfNums
  congr 1
  simp [List.map_map, Function.comp_def]

set_option maxRecDepth 100000 in
set_option maxHeartbeats 1600000 in
theorem bReplace_any (t : Nat) (cs : List Value) (txt : List UInt8) (w : World) (hT : Blk t (.cells cs.toArray 211) w) (hC : TabR cs) (hl : txt.length ≤ 199) :
    Calls Tryz.prog 234 #[.pointer (some ⟨t, 0, none⟩), .string ⟨txt.toArray⟩] w fun e w' => e = .returned (.string ⟨(txt.map repl8).toArray⟩) ∧ Below w.heap.size w w' := by
  have HT := Lib.hid hT
  have HC := Lib.hid hC
  have htl := hT.lt
  clear hT hC
  have hn0 : ∀ w : World, (binOp .eql 30 (.slice none 0 0) (.slice none 0 0)).run Tryz.prog w = .ok (.bool true) w := fun w => run_eql_slice_nil (P := Tryz.prog) w 30 5 none 0 0 Tryz.underlying30
  have hn1 : ∀ (a : Addr) (n c : Nat) (w : World), (binOp .eql 30 (.slice (some a) n c) (.slice none 0 0)).run Tryz.prog w = .ok (.bool false) w := fun a n c w => run_eql_slice_nil (P := Tryz.prog) w 30 5 (some a) n c Tryz.underlying30
  go_enter Tryz.func234, Tryz.ntmps234
  go_wp2
  go_loopw [5, 6] (fun s i wr => ∃ k : Nat, k ≤ txt.length ∧ i = .int .i64 k ∧ Hid (Below w.heap.size w wr) ∧
    ((s = .slice none 0 0 ∧ Hid (Same8 txt k)) ∨ (∃ b cap, s = .slice (some ⟨b, 0, none⟩) txt.length cap ∧ txt.length ≤ cap ∧ w.heap.size ≤ b ∧ Hid (Buf b txt k wr)))) (fun _ i _ => txt.length - (intOf i).toNat)
  case atStart => exact ⟨0, by omega, rfl, Lib.hid (Below.refl _ _), .inl ⟨rfl, Lib.hid (fun j h h2 => by omega)⟩⟩
  case round =>
    obtain ⟨k, hk, rfl, HB, hs⟩ := hrel
    by_cases hlt : k < txt.length
    · obtain ⟨c, hc⟩ : ∃ c, c = txt[k] := ⟨_, rfl⟩
      have hget : ∀ hh : k < (ByteArray.mk txt.toArray).size, (ByteArray.mk txt.toArray)[k]'hh = c := fun _ => hc.symm
      have hcl : c.toNat < 256 := c.toNat_lt
      have hcl2 : (c.toNat : Int) < 256 := by omega
      have htab : wr.cell? ⟨t, c.toNat, none⟩ = some (.int .u8 (replC c.toNat : Nat)) := by
        have h := ((HT.out.below HB.out htl).cell c.toNat).trans (by simpa using HC.out.2 c.toNat hcl)
        exact h
      have HCC := Lib.hid hc
      clear hc
      cases hq : (((replC c.toNat : Nat) : Int) != (c.toNat : Int))
      · have HS := Lib.hid (show repl8 txt[k] = txt[k] by
          have h : ((replC c.toNat : Nat) : Int) = c.toNat := by simpa using hq
          rw [← HCC.out]
          exact repl8_same (by omega))
        rcases hs with ⟨rfl, HN⟩ | ⟨b, cap, rfl, hcap, hb, HN⟩
        · go_wp2
          go_roundw
          case rel =>
            refine ⟨k + 1, by omega, by go_num, HB, .inl ⟨rfl, Lib.hid fun j h h2 => ?_⟩⟩
            rcases Nat.lt_or_ge j k with h3 | h3
            · exact HN.out j h h3
            · obtain rfl : j = k := by omega
              exact HS.out
          case measure => simp [intOf]; omega
        · go_wp2
          go_roundw
          case rel => exact ⟨k + 1, by omega, by go_num, HB, .inr ⟨b, cap, rfl, hcap, hb, Lib.hid (HN.out.skip hlt HS.out)⟩⟩
          case measure => simp [intOf]; omega
      · rcases hs with ⟨rfl, HN⟩ | ⟨b, cap, rfl, hcap, hb, HN⟩
        · have hcv := run_bytes_of_string (P := Tryz.prog) wr 9 30 5 ⟨txt.toArray⟩ Tryz.underlying9 Tryz.underlying30 Tryz.underlying5
          have hge := grownCap_ge wr txt.length 0 5
          have hsz : (ByteArray.mk txt.toArray).size = txt.length := by simp [ByteArray.size]
          rw [hsz] at hcv
          obtain ⟨cp, hcp⟩ : ∃ cp, cp = grownCap wr txt.length 0 5 := ⟨_, rfl⟩
          obtain ⟨wn, hwn⟩ : ∃ wn, wn = (wr.drew.alloc (.cells (bytesRow ⟨txt.toArray⟩ (grownCap wr txt.length 0 5)) 5 ((bytesRow ⟨txt.toArray⟩ (grownCap wr txt.length 0 5)).size, (bytesRow ⟨txt.toArray⟩ (grownCap wr txt.length 0 5)).size + 1))) := ⟨_, rfl⟩
          have HNEW := Lib.hid (Buf.new wr txt k HN.out)
          have hbn : Below wr.heap.size wr wn := by rw [hwn]; exact (Below.refl _ _).drew.alloc (Nat.le_refl _) _
          rw [← hwn] at hcv HNEW
          rw [← hcp] at hcv hge
          clear hwn hcp
          have htab2 : wn.cell? ⟨t, c.toNat, none⟩ = some (.int .u8 (replC c.toNat : Nat)) := (hbn.cell (p := ⟨t, c.toNat, none⟩) (Nat.lt_of_lt_of_le htl HB.out.size)).trans htab
          have hbc := HNEW.out.cell k hlt
          have hbf := HNEW.out.free k hlt
          have HBN := Lib.hid (HB.out.trans (hbn.mono HB.out.size))
          have hws := HB.out.size
          clear hbn
          go_wp2
          go_roundw
          case rel =>
            refine ⟨k + 1, by omega, by go_num, Lib.hid (HBN.out.setCell (p := ⟨wr.heap.size, k, none⟩) hws _), .inr ⟨wr.heap.size, cp, rfl, hge, hws, Lib.hid ?_⟩⟩
            have h := HNEW.out.next hlt
            rw [← HCC.out] at h
            exact h
          case measure => simp [intOf]; omega
        · have hbc := HN.out.cell k hlt
          have hbf := HN.out.free k hlt
          go_wp2
          go_roundw
          case rel =>
            refine ⟨k + 1, by omega, by go_num, Lib.hid (HB.out.setCell (p := ⟨b, k, none⟩) hb _), .inr ⟨b, cap, rfl, hcap, hb, Lib.hid ?_⟩⟩
            have h := HN.out.next hlt
            rw [← HCC.out] at h
            exact h
          case measure => simp [intOf]; omega
    · obtain rfl : k = txt.length := by omega
      rcases hs with ⟨rfl, HN⟩ | ⟨b, cap, rfl, hcap, hb, HN⟩
      · have HM := Lib.hid (map_same HN.out)
        go_wp2
        go_ret
        exact ⟨by rw [HM.out]; rfl, HB.out⟩
      · have hcv := run_convert_bytes_arg (P := Tryz.prog) (w := wr) 30 5 Tryz.underlying30 Tryz.underlying5 b 0 txt.length cap (txt.map fun c => ((repl8 c).toNat : Int)) (by simp) (by
          intro j hj
          rw [Nat.zero_add, HN.out.cell j hj, if_pos hj]
          simp [List.getD, hj]) 9 Tryz.underlying9
        rw [strOfNums_map] at hcv
        go_wp2
        go_ret
        exact ⟨rfl, HB.out⟩
end Go.Proofs.YtjpndimhegfbnaaGreatDoor
