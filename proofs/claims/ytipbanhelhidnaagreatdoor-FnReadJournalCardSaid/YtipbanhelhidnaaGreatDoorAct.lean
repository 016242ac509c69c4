/-
  Texts of walks and plain lemmas for this seat; no condition.
-/
import Derived.Test.YtipbanhelhidnaaGreatDoorGA
import Derived.Laws.StructEq
namespace Go.Proofs.YtipbanhelhidnaaGreatDoor
open Go.RowKit

/-- An act. -/
structure Ac where
  kind : Int
  step : Mv
  count : Int
deriving DecidableEq

def zAc : Ac := ⟨0, ⟨0, false, 0⟩, 0⟩
def encAc (a : Ac) : List Value := [.int .i64 a.kind, .int .i64 a.step.which, .bool a.step.back, .int .i64 a.step.at_, .int .i64 a.count]
def zMv (m : Mv) : Bool := (m.which == 0) && (!m.back) && (m.at_ == 0)
def namedB (a : Ac) : Bool := if a.kind == 0 then a.count == 0 else if a.kind == 1 then zMv a.step else if a.kind == 2 then zMv a.step && (a.count == 0) else false

set_option maxHeartbeats 1600000 in
theorem named_any (a : Ac) (w : World) :
    Calls Tryz.prog 34 #[.agg #[.int .i64 a.kind, .int .i64 a.step.which, .bool a.step.back, .int .i64 a.step.at_, .int .i64 a.count]] w fun e w' => e = .returned (.bool (namedB a)) ∧ Below w.heap.size w w' := by
  obtain ⟨k, ⟨p, b, q⟩, c⟩ := a
  have hb : Hid (∀ o, Below w.heap.size w (w.alloc o)) := Lib.hid fun o => (Below.refl _ _).alloc (Nat.le_refl _) _
  cases h0 : k == 0
  · cases h1 : k == 1
    · cases h2 : k == 2
      · go_enter Tryz.func34, Tryz.ntmps34
        go_wp2
        go_ret
        exact ⟨ret_bool (by simp [namedB, h0, h1, h2]), hb.out _⟩
      · cases h3 : p == 0
        · go_enter Tryz.func34, Tryz.ntmps34
          go_wp2
          go_ret
          exact ⟨ret_bool (by simp [namedB, zMv, h0, h1, h2, h3]), hb.out _⟩
        · cases b
          · cases h4 : q == 0
            · go_enter Tryz.func34, Tryz.ntmps34
              go_wp2
              go_ret
              exact ⟨ret_bool (by simp [namedB, zMv, h0, h1, h2, h3, h4]), hb.out _⟩
            · go_enter Tryz.func34, Tryz.ntmps34
              go_wp2
              go_ret
              exact ⟨ret_bool (by simp [namedB, zMv, h0, h1, h2, h3, h4]), hb.out _⟩
          · go_enter Tryz.func34, Tryz.ntmps34
            go_wp2
            go_ret
            exact ⟨ret_bool (by simp [namedB, zMv, h0, h1, h2, h3]), hb.out _⟩
    · cases h3 : p == 0
      · go_enter Tryz.func34, Tryz.ntmps34
        go_wp2
        go_ret
        exact ⟨ret_bool (by simp [namedB, zMv, h0, h1, h3]), hb.out _⟩
      · cases b
        · cases h4 : q == 0
          · go_enter Tryz.func34, Tryz.ntmps34
            go_wp2
            go_ret
            exact ⟨ret_bool (by simp [namedB, zMv, h0, h1, h3, h4]), hb.out _⟩
          · go_enter Tryz.func34, Tryz.ntmps34
            go_wp2
            go_ret
            exact ⟨ret_bool (by simp [namedB, zMv, h0, h1, h3, h4]), hb.out _⟩
        · go_enter Tryz.func34, Tryz.ntmps34
          go_wp2
          go_ret
          exact ⟨ret_bool (by simp [namedB, zMv, h0, h1, h3]), hb.out _⟩
  · go_enter Tryz.func34, Tryz.ntmps34
    go_wp2
    go_ret
    exact ⟨ret_bool (by simp [namedB, h0]), hb.out _⟩

set_option maxHeartbeats 1600000 in
theorem l10Named_any (a : Ac) (w : World) :
    Calls Tryz.prog 75 #[.agg #[.int .i64 a.kind, .int .i64 a.step.which, .bool a.step.back, .int .i64 a.step.at_, .int .i64 a.count]] w fun e w' => e = .returned (.bool (namedB a)) ∧ Below w.heap.size w w' := by
  obtain ⟨k, ⟨p, b, q⟩, c⟩ := a
  have hb : Hid (∀ o, Below w.heap.size w (w.alloc o)) := Lib.hid fun o => (Below.refl _ _).alloc (Nat.le_refl _) _
  cases h0 : k == 0
  · cases h1 : k == 1
    · cases h2 : k == 2
      · go_enter Tryz.func75, Tryz.ntmps75
        go_wp2
        go_ret
        exact ⟨ret_bool (by simp [namedB, h0, h1, h2]), hb.out _⟩
      · cases h3 : p == 0
        · go_enter Tryz.func75, Tryz.ntmps75
          go_wp2
          go_ret
          exact ⟨ret_bool (by simp [namedB, zMv, h0, h1, h2, h3]), hb.out _⟩
        · cases b
          · cases h4 : q == 0
            · go_enter Tryz.func75, Tryz.ntmps75
              go_wp2
              go_ret
              exact ⟨ret_bool (by simp [namedB, zMv, h0, h1, h2, h3, h4]), hb.out _⟩
            · cases h5 : c == 0
              · go_enter Tryz.func75, Tryz.ntmps75
                go_wp2
                go_ret
                exact ⟨ret_bool (by simp [namedB, zMv, h0, h1, h2, h3, h4, h5]), hb.out _⟩
              · go_enter Tryz.func75, Tryz.ntmps75
                go_wp2
                go_ret
                exact ⟨ret_bool (by simp [namedB, zMv, h0, h1, h2, h3, h4, h5]), hb.out _⟩
          · go_enter Tryz.func75, Tryz.ntmps75
            go_wp2
            go_ret
            exact ⟨ret_bool (by simp [namedB, zMv, h0, h1, h2, h3]), hb.out _⟩
    · cases h3 : p == 0
      · go_enter Tryz.func75, Tryz.ntmps75
        go_wp2
        go_ret
        exact ⟨ret_bool (by simp [namedB, zMv, h0, h1, h3]), hb.out _⟩
      · cases b
        · cases h4 : q == 0
          · go_enter Tryz.func75, Tryz.ntmps75
            go_wp2
            go_ret
            exact ⟨ret_bool (by simp [namedB, zMv, h0, h1, h3, h4]), hb.out _⟩
          · go_enter Tryz.func75, Tryz.ntmps75
            go_wp2
            go_ret
            exact ⟨ret_bool (by simp [namedB, zMv, h0, h1, h3, h4]), hb.out _⟩
        · go_enter Tryz.func75, Tryz.ntmps75
          go_wp2
          go_ret
          exact ⟨ret_bool (by simp [namedB, zMv, h0, h1, h3]), hb.out _⟩
  · go_enter Tryz.func75, Tryz.ntmps75
    go_wp2
    go_ret
    exact ⟨ret_bool (by simp [namedB, h0]), hb.out _⟩
end Go.Proofs.YtipbanhelhidnaaGreatDoor
