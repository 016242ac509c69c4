/-
  Texts of walks and plain lemmas for this seat; no condition.
-/
import Derived.Test.YtkdgpbnngkljkaaDoorRd
import Derived.Test.YtkdgpbnngkljkaaDoorRMove
import Derived.Test.YtkdgpbnngkljkaaDoorMText2
import Derived.Test.YtkdgpbnngkljkaaDoorAlive
import Derived.Deep.RegionWith
namespace Go.Proofs.YtkdgpbnngkljkaaDoor
open Go.RowKit

/-- A string comes back. -/
def RetS (P : ByteArray → World → Prop) (e : Ending) (w' : World) : Prop := ∃ s : ByteArray, e = .returned (.string s) ∧ P s w'
theorem mvText_len5 {m : Mv} (h : mvOk m = true) : 4 ≤ (mvText m).length := by
  have h1 := dig2_pos m.which.toNat
  have h2 := dig2_pos m.at_.toNat
  simp only [mvText, h, if_true]
  cases m.back <;> simp <;> omega

theorem five_get (z : Nat) (h : z < 5) : ∃ s : ByteArray, (#[.string ⟨#[]⟩, .string ⟨#[48]⟩, .string ⟨#[45]⟩, .string ⟨#[64]⟩, .string ⟨#[57]⟩] : Array Value)[z]? = some (.string s) ∧ s.size ≤ 1 := by
  match z, h with
  | 0, _ => exact ⟨_, rfl, by decide⟩
  | 1, _ => exact ⟨_, rfl, by decide⟩
  | 2, _ => exact ⟨_, rfl, by decide⟩
  | 3, _ => exact ⟨_, rfl, by decide⟩
  | 4, _ => exact ⟨_, rfl, by decide⟩
theorem blk_hop {w w' : World} {o : Obj} {g : Nat} (ho : Outside g (g + 1) (w.alloc o).drew w') (hlt : g < w.heap.size) : Blk w.heap.size o w' :=
  Blk.outside (w := (w.alloc o).drew) (show (w.alloc o).heap[w.heap.size]? = some o from heap_alloc_new w o) ho (Or.inr hlt)
theorem blk_hop2 {w w' : World} {o : Obj} {g : Nat} (ho : Outside g (g + 1) (w.alloc o) w') (hlt : g < w.heap.size) : Blk w.heap.size o w' :=
  Blk.outside (heap_alloc_new w o) ho (Or.inr hlt)
theorem Rd.al {g c : Nat} {w : World} (h : Rd g w c) (o : Obj) : Rd g (w.alloc o) c := h.below ((Below.refl _ _).alloc (Nat.le_refl _) _) h.lt
theorem Rd.drew {g c : Nat} {w : World} (h : Rd g w c) : Rd g w.drew c := h

theorem fin1 {g : Nat} {a w w' : World} {o : Obj} (hb : Below a.heap.size a w) (h : Outside g (g + 1) w.drew w') (hg : a.heap.size ≤ g) : Below a.heap.size a (w'.alloc o) :=
  (Below.outside hb.drew h hg hb.size).alloc (Nat.le_trans hb.size h.size) _
theorem fin2 {g : Nat} {a w w' : World} {o : Obj} (hb : Below a.heap.size a w) (h : Outside g (g + 1) (w.alloc o).drew w') (hg : a.heap.size ≤ g) : Below a.heap.size a w' :=
  Below.outside (hb.alloc hb.size o).drew h hg (Nat.le_trans hb.size (by show w.heap.size ≤ (w.alloc o).heap.size; simp))

set_option maxRecDepth 100000 in
set_option maxHeartbeats 1600000 in
theorem DrawReadMove_any (v : Value) (xs : List Int) (w : World) (h : SlB 0 w.heap.size w v xs) :
    Calls Tryd.prog 15 #[v] w (RetS fun s w' => s.size ≤ 20 ∧ Below w.heap.size w w') := by
  go_enter Tryd.func15, Tryd.ntmps15
  go_wp2_with fail
  refine (l20Open_any _ xs _ h).mono ?_
  rintro e w1 ⟨_, rfl, g, rfl, hg, hb, hr⟩
  have HB := Lib.hid hb
  have HR := Lib.hid hr
  clear hr hb h
  go_wp2_with fail
  refine (pick_any g 0 _ _ HR.out (by omega)).mono ?_
  rintro e w2 ⟨x1, rfl, ⟨i1, i1'⟩, ho, hr⟩
  replace HB := Lib.hid (Below.outside HB.out ho (by omega) HB.out.size)
  replace HR := Lib.hid hr
  clear ho hr
  have j1 : x1 ≤ 20 := by omega
  clear i1'
  go_wp2_with fail
  refine (pick_any g 1 _ _ HR.out (by omega)).mono ?_
  rintro e w3 ⟨x2, rfl, ⟨i2, i2'⟩, ho, hr⟩
  replace HB := Lib.hid (Below.outside HB.out ho (by omega) HB.out.size)
  replace HR := Lib.hid hr
  clear ho hr i2'
  go_wp2_with fail
  refine (pick_any g 2 _ _ HR.out (by omega)).mono ?_
  rintro e w4 ⟨x3, rfl, ⟨i3, i3'⟩, ho, hr⟩
  replace HB := Lib.hid (Below.outside HB.out ho (by omega) HB.out.size)
  replace HR := Lib.hid hr
  clear ho hr
  have j3 : x3 ≤ 39 := by omega
  clear i3'
  go_wp2_with fail
  refine (spec_MoveText ⟨x1, x2 == 0, x3⟩ _).mono ?_
  rintro e w5 ⟨rfl, hb⟩
  replace HR := Lib.hid (HR.out.below hb HR.out.lt)
  replace HB := Lib.hid (HB.out.trans (hb.mono HB.out.size))
  clear hb
  have l1 := mvText_len ⟨x1, x2 == 0, x3⟩
  have l2 := mvText_len5 (m := ⟨x1, x2 == 0, x3⟩) (by simp [mvOk]; omega)
  obtain ⟨t, ht⟩ : ∃ t, t = mvText ⟨x1, x2 == 0, x3⟩ := ⟨_, rfl⟩
  rw [← ht] at l1 l2 ⊢
  clear ht
  go_wp2_with fail
  refine (pick_any g 3 _ _ HR.out (by omega)).mono ?_
  rintro e w6 ⟨x4, rfl, ⟨i4, i4'⟩, ho, hr⟩
  replace HB := Lib.hid (Below.outside HB.out ho (by omega) HB.out.size)
  replace HR := Lib.hid hr
  clear ho hr i4'
  cases h4 : x4 == 0
  · go_wp2
    go_ret
    exact ⟨_, rfl, by show t.toArray.size ≤ 20; simp; omega, HB.out⟩
  · go_wp2_with fail
    refine (pick_any g 4 _ _ HR.out (by omega)).mono ?_
    rintro e w7 ⟨x5, rfl, ⟨i5, i5'⟩, ho, hr⟩
    replace HB := Lib.hid (Below.outside HB.out ho (by omega) HB.out.size)
    replace HR := Lib.hid hr
    clear ho hr
    obtain ⟨k, rfl⟩ : ∃ k : Nat, x5 = k := ⟨x5.toNat, by omega⟩
    have j5 : k < t.length := by omega
    have j6 : k + 1 ≤ t.length := by omega
    have j7 : (k : Int) + 1 ≤ t.length := by omega
    have j8 : (0 : Int) ≤ (k : Int) + 1 := by omega
    have j9 : IntKind.i64.wrap ((k : Int) + 1) = (k : Int) + 1 := by simp [IntKind.wrap, IntKind.bits, IntKind.signed]; omega
    have j10 : ((k : Int) + 1).toNat = k + 1 := by omega
    clear i5 i5'
    have hlt := HR.out.lt
    go_wp2_with fail
    go_region_with (go_at_call 27; go_loud (refine (pick_any g 5 _ _ (by first | exact HR.out | exact Rd.al HR.out _ | exact Rd.al HR.out.drew _ | exact (Rd.al HR.out _).drew) (by omega)).mono ?_); rintro e w8 ⟨z, rfl, ⟨iz, iz'⟩, ho, hr⟩; obtain ⟨z, rfl⟩ : ∃ n : Nat, z = n := ⟨z.toNat, by omega⟩; have jz : z < 5 := (by omega); clear iz iz'; obtain ⟨sz, hsz, hss⟩ := five_get z jz; (try (have hz := ((blk_hop ho hlt).cell z).trans hsz)); (try (have hz := ((blk_hop2 ho hlt).cell z).trans hsz)); have hz2 := ((Blk.new w8 (.cells #[.string ⟨#[]⟩, .string ⟨#[48]⟩, .string ⟨#[45]⟩, .string ⟨#[64]⟩, .string ⟨#[57]⟩] 9)).cell z).trans hsz; have HO := Lib.hid ho; clear ho hr)
    all_goals (
      go_wp2
      go_ret
      refine ⟨_, rfl, ?_, ?_⟩
      · simp [ByteArray.size_append, ByteArray.size_extract]
        omega
      · first
        | exact fin1 HB.out HO.out (by omega)
        | exact fin2 HB.out HO.out (by omega))
end Go.Proofs.YtkdgpbnngkljkaaDoor
