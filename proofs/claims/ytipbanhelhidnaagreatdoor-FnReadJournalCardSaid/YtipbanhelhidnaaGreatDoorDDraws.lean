/-
  Texts of walks and plain lemmas for this seat; no condition.
-/
import Derived.Test.YtipbanhelhidnaaGreatDoorDActs
import Derived.Test.YtipbanhelhidnaaGreatDoorAct3
import Derived.Test.YtipbanhelhidnaaGreatDoorJournal
import Derived.Deep.RegionWith
import Derived.Deep.DrawnRows
namespace Go.Proofs.YtipbanhelhidnaaGreatDoor
open Go.RowKit

/-- A block that holds no byte may be written: the reader reads on. -/
theorem Rd.past {g c s : Nat} {w w' : World} {cs : Array Value} {T : TypeId} {f : Nat × Nat} (h : Rd g w c) (hk : Blk s (.cells cs T f) w) (hn : ∀ (j : Nat) (x : Int), cs[j]? ≠ some (.int .u8 x)) (ho : Outside s (s + 1) w w') (hs : s ≠ g) : Rd g w' c := by
  have hg := h.lt
  obtain ⟨a, cap, p, xs, h1, h2, h3, h4, a', cap', e, e1, e2, e3, e4, e5⟩ := h
  refine ⟨a, cap, p, xs, (ho.block g hg (by omega)).trans h1, h2, h3, h4, a', cap', e, e1, e2, e3, e4, fun i hi => ?_⟩
  obtain ⟨b, off, k1, k2, k3, k4, k5⟩ := e5 i hi
  have hb : b ≠ s := by
    intro hb
    subst hb
    rw [hk.cell] at k5
    have hi' : i < xs.length := by simpa using hi
    refine hn (off + i) xs[i] ?_
    rw [k5]
    simp [hi']
  refine ⟨b, off, k1, k2, k3, Nat.lt_of_lt_of_le k4 ho.size, ?_⟩
  rw [World.cell?_of_block (w := w) (a := ⟨b, off + i, none⟩) (ho.block b k4 (by omega))]
  exact k5
theorem nil_no : ∀ (j : Nat) (x : Int), (#[.slice none 0 0, .slice none 0 0, .slice none 0 0, .slice none 0 0] : Array Value)[j]? ≠ some (.int .u8 x) := by
  intro j x h
  match j with
  | 0 => simp at h
  | 1 => simp at h
  | 2 => simp at h
  | 3 => simp at h
  | j + 4 => simp at h
/-- A string comes back. -/
def RetSt (P : ByteArray → World → Prop) (e : Ending) (w' : World) : Prop := ∃ s : ByteArray, e = .returned (.string s) ∧ P s w'
theorem six_str (z : Nat) (h : z < 6) : ∃ s : ByteArray, (#[.string ⟨#[]⟩, .string ⟨#[48]⟩, .string ⟨#[32]⟩, .string ⟨#[10]⟩, .string ⟨#[64]⟩, .string ⟨#[115, 105, 109, 112, 108, 101]⟩] : Array Value)[z]? = some (.string s) ∧ s.size ≤ 6 := by
  match z, h with
  | 0, _ => exact ⟨_, rfl, by decide⟩
  | 1, _ => exact ⟨_, rfl, by decide⟩
  | 2, _ => exact ⟨_, rfl, by decide⟩
  | 3, _ => exact ⟨_, rfl, by decide⟩
  | 4, _ => exact ⟨_, rfl, by decide⟩
  | 5, _ => exact ⟨_, rfl, by decide⟩

set_option maxRecDepth 100000 in
set_option maxHeartbeats 1600000 in
theorem l20Spoil_any (g c : Nat) (t : List UInt8) (w : World) (h : Rd g w c) (hc : c ≤ 1000000) (hl : t.length ≤ 1000000) :
    Calls Tryz.prog 20 #[.pointer (some ⟨g, 0, none⟩), .string ⟨t.toArray⟩] w (RetSt fun s w' => s.size ≤ t.length + 6 ∧ Outside g (g + 1) w w' ∧ Rd g w' (c + 2)) := by
  have hg := h.lt
  have HR := Lib.hid h
  clear h
  by_cases h0 : t.length = 0
  · go_enter Tryz.func20, Tryz.ntmps20
    go_wp2
    go_ret
    exact ⟨_, rfl, by show (1 : Nat) ≤ _; omega, Outside.refl _ _ _, HR.out.mono (by omega)⟩
  · go_enter Tryz.func20, Tryz.ntmps20
    go_wp2_with fail
    refine (pick_any g c _ _ HR.out (by omega)).mono ?_
    rintro e w1 ⟨x5, rfl, i_, ho, hr⟩
    obtain ⟨i5, i5'⟩ := i_.lt (by omega)
    clear i_
    have HO := Lib.hid ho
    replace HR := Lib.hid hr
    clear ho hr
    obtain ⟨k, rfl⟩ : ∃ k : Nat, x5 = k := ⟨x5.toNat, by omega⟩
    have j5 : k < t.length := by omega
    have j6 : k + 1 ≤ t.length := by omega
    have j7 : (k : Int) + 1 ≤ t.length := by omega
    have j8 : (0 : Int) ≤ (k : Int) + 1 := by omega
    have j9 : IntKind.i64.wrap ((k : Int) + 1) = (k : Int) + 1 := by simp [IntKind.wrap, IntKind.bits, IntKind.signed]; omega
    have j10 : ((k : Int) + 1).toNat = k + 1 := by omega
    clear i5 i5'
    have hlt := HR.out.lt
    go_wp2_with fail
    go_region_with (go_at_call 19; refine (pick_any g _ 6 _ (by repeat first | with_reducible exact HR.out | with_reducible apply Rd.drew | with_reducible apply Rd.al) (by omega)).mono ?_; rintro e w8 ⟨z, rfl, iz_, ho, hr⟩; obtain ⟨iz, iz'⟩ := iz_.lt (by omega); clear iz_; obtain ⟨z, rfl⟩ : ∃ n : Nat, z = n := ⟨z.toNat, by omega⟩; have jz : z < 6 := (by omega); clear iz iz'; obtain ⟨sz, hsz, hss⟩ := six_str z jz; (try (have hz := ((hop1 ho hlt).cell z).trans hsz)); (have hz2 := lit_new w8 (T := 9) hsz); (have HQ : Hid (Outside g (g + 1) w1 w8) := Lib.hid (ho.grew (by repeat first | with_reducible exact Grew.refl _ | with_reducible apply Grew.drew | with_reducible apply Grew.al))); (have R8 := Lib.hid hr); clear ho hr)
    all_goals (
      go_wp2
      go_ret
      refine ⟨_, rfl, ?_, ?_⟩
      · simp [ByteArray.size_append, ByteArray.size_extract]
        omega
      · first
        | exact ⟨HO.out.trans HQ.out, R8.out.mono (by omega)⟩
        | exact ⟨(HO.out.trans HQ.out).below (al_below _ _) (Nat.le_trans HO.out.size HQ.out.size), (R8.out.al _).mono (by omega)⟩)


set_option maxRecDepth 100000 in
set_option maxHeartbeats 6400000 in
theorem l20Written_any (g c : Nat) (w : World) (h : Rd g w c) (hc : c ≤ 100000) :
    Calls Tryz.prog 18 #[.pointer (some ⟨g, 0, none⟩)] w (RetV fun v w' => ∃ acl lo_ hi_, OwnA lo_ hi_ 41 w' v acl ∧ w.heap.size ≤ lo_ ∧ lo_ ≤ hi_ ∧ hi_ ≤ w'.heap.size ∧ acl.length ≤ 6 ∧ Outside g (g + 1) w w' ∧ Rd g w' (c + 20000)) := by
  have hg := h.lt
  obtain ⟨w0, hw0⟩ : ∃ w0, w0 = w.alloc (.cells #[] 41) := ⟨_, rfl⟩
  have OA : Hid (OwnA w.heap.size (w.heap.size + 1) 41 w0 (.slice (some ⟨w.heap.size, 0, none⟩) 0 0) []) := by
    rw [hw0]
    exact Lib.hid (show Own 5 w.heap.size (w.heap.size + 1) 41 _ _ _ _ from Own.lit 5 41 w [] 0 (by omega) rfl)
  obtain ⟨hb0, _, hs0⟩ := box_facts2 hw0
  have HR := Lib.hid (h.below hb0 hg)
  have HO := Lib.hid ((Outside.refl g (g + 1) w).below hb0 (Nat.le_refl _))
  clear h hb0
  go_enter Tryz.func18, Tryz.ntmps18
  go_wp2_with fail
  simp only [← hw0]
  clear hw0
  refine (l20Desk_any g c 0 _ HR.out (by omega) (by omega)).mono ?_
  rintro e w1 ⟨y0, y1, y2, y3, rfl, D, od_, hds, h_, r_⟩
  have hs1 := h_.size
  replace OA := Lib.hid (OA.out.outside h_ (.inr (by omega)))
  replace HO := Lib.hid (HO.out.trans h_)
  replace HR := Lib.hid r_
  have OD := Lib.hid od_
  clear h_ r_ od_
  go_wp2_with fail
  refine (l20Acts_any g _ w0.heap.size w1.heap.size _ _ _ _ D _ HR.out (by omega) OD.out (Nat.le_refl _) (by omega) (by omega)).mono ?_
  rintro e w2 ⟨va, rfl, la, oa_, hla, h_, r_⟩
  have hs2 := h_.size
  replace OA := Lib.hid (OA.out.outside h_ (.inr (by omega)))
  replace HO := Lib.hid (HO.out.trans h_)
  replace HR := Lib.hid r_
  obtain ⟨xa, xc, rfl⟩ := Own.shape oa_
  have LA : Hid (SlA w1.heap.size w2.heap.size w2 (.slice xa la.length xc) la) := Lib.hid oa_.sl
  clear h_ r_ oa_ OD
  go_wp2_with fail
  go_loopw [3, 5] (fun ov kv wr => ∃ (k : Nat) (acl : List Ac) (oa : Option Addr) (oc : Nat), ov = .slice oa acl.length oc ∧ kv = .int .i64 k ∧ k ≤ la.length ∧ acl.length ≤ k ∧ Hid (w2.heap.size ≤ wr.heap.size ∧ Outside g (g + 1) w wr ∧ Rd g wr (c + 20000) ∧ SlA w1.heap.size w2.heap.size wr (.slice xa la.length xc) la ∧ ∃ lo_ hi_, OwnA lo_ hi_ 41 wr (.slice oa acl.length oc) acl ∧ w.heap.size ≤ lo_ ∧ lo_ ≤ hi_ ∧ hi_ ≤ wr.heap.size ∧ (hi_ ≤ w1.heap.size ∨ w2.heap.size ≤ lo_))) (fun _ k _ => la.length - (intOf k).toNat)
  case atStart => exact ⟨0, [], _, _, rfl, rfl, by omega, by simp, Lib.hid ⟨by omega, HO.out, HR.out.mono (by omega), LA.out, _, _, OA.out, by omega, by omega, by omega, by omega⟩⟩
  case round =>
    clear HO HR LA OA
    obtain ⟨k, acl, oa, oc, rfl, rfl, hk, hak, HQ⟩ := hrel
    obtain ⟨hsr, ho_, hr_, la_, lo_, hi_, oa_, hlo1, hlohi, hhi1, hdj⟩ := HQ.out
    have HO := Lib.hid ho_
    have HR := Lib.hid hr_
    have LA := Lib.hid la_
    have OA := Lib.hid oa_
    clear HQ ho_ hr_ oa_
    by_cases hlt : k < la.length
    · obtain ⟨b, off, e1, hb1, hb2, hb3, q0, q1, q2, q3, q4⟩ := la_.get k hlt
      subst e1
      clear la_
      go_wp2_with fail
      clear q0 q1 q2 q3 q4
      refine (spec_ActText la[k] wr).mono ?_
      rintro e w3 ⟨rfl, hb_⟩
      have hs3 := hb_.size
      replace HR := Lib.hid (HR.out.below hb_ HR.out.lt)
      replace HO := Lib.hid (HO.out.below hb_ (by omega))
      replace LA := Lib.hid (LA.out.below hb_ (by omega))
      replace OA := Lib.hid (OA.out.below hb_ hhi1)
      clear hb_
      obtain ⟨t, ht⟩ : ∃ t, t = actText la[k] := ⟨_, rfl⟩
      rw [← ht]
      clear ht
      cases t
      · go_wp2
        go_roundw
        case rel => exact ⟨k + 1, acl, _, _, rfl, by go_num, by omega, by omega, Lib.hid ⟨by omega, HO.out, HR.out, LA.out, lo_, hi_, OA.out, by omega, by omega, by omega, hdj⟩⟩
        case measure => simp [intOf]; omega
      · obtain ⟨b', off', e1, _, _, _, q0, q1, q2, q3, q4⟩ := LA.out.get k hlt
        injection e1 with e1
        injection e1 with e1 e2
        subst e1 e2
        go_upto_region 5 with (at_builtin; refine wpList_app_lit2 w3 rfl _ _ _ (by rfl) 41 (.agg #[.int .i64 0, .int .i64 0, .bool false, .int .i64 0, .int .i64 0]) 5 40 Tryz.underlying24 info_act rfl (by decide) (by decide) (by rfl) OA.out 1 (encAc la[k]) (by rfl) rfl (encAc_one la[k]) rfl (by omega) (by omega) ?_; intro v9 w9 lo9 hi9 hown9 hrange9 hout9; obtain ⟨a9, c9, rfl⟩ := Own.shape hown9; (have H9 := Lib.hid (And.intro hown9 (And.intro hrange9 hout9))); clear hown9 hrange9 hout9)
        clear q0 q1 q2 q3 q4
        obtain ⟨hown9, hrange9, hout9⟩ := H9.out
        clear H9
        have hs_9 := hout9.size
        replace LA := Lib.hid (LA.out.outside hout9 (by omega))
        replace HO := Lib.hid (HO.out.fresh hout9 (by omega))
        replace HR := Lib.hid (HR.out.outside hout9 (by omega))
        have OA9 : Hid (OwnA lo9 hi9 41 w9 (.slice a9 (acl ++ [la[k]]).length c9) (acl ++ [la[k]])) := Lib.hid (by have h_ := hown9; simpa [OwnA, acs] using h_)
        clear hown9 hout9 OA
        go_wp2
        go_roundw
        case rel => exact ⟨k + 1, acl ++ [la[k]], _, _, by simp, by go_num, by omega, by simp; omega, Lib.hid ⟨by omega, HO.out, HR.out, LA.out, lo9, hi9, OA9.out, by omega, by omega, by omega, by omega⟩⟩
        case measure => simp [intOf]; omega
    · go_wp2
      go_ret
      exact RetV.mk _ rfl ⟨acl, lo_, hi_, OA.out, hlo1, hlohi, hhi1, by omega, HO.out, HR.out⟩
end Go.Proofs.YtipbanhelhidnaaGreatDoor
