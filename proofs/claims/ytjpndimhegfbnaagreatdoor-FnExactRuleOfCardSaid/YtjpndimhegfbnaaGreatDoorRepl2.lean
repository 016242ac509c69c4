/-
  Texts of walks and plain lemmas for this seat; no condition.
-/
import Derived.Test.YtjpndimhegfbnaaGreatDoorBRepl
namespace Go.Proofs.YtjpndimhegfbnaaGreatDoor
open Go.RowKit

theorem info_str : (Tryz.prog.info? 9).map (fun i => (i.zero, i.size, i.bytes)) = some (some (.string ⟨#[]⟩), 1, 16) := by kernel_rfl

set_option maxRecDepth 100000 in
set_option maxHeartbeats 1600000 in
theorem newReplacer_any (a : Addr) (c : Nat) (w : World) (hs : Sl 1 0 w.heap.size w (.slice (some a) 6 c) 6 six) :
    Calls Tryz.prog 119 #[.slice (some a) 6 c] w (RetV fun v w' => ∃ g o cap, v = .pointer (some ⟨g, 0, none⟩) ∧ w.heap.size ≤ g ∧ w.heap.size ≤ o ∧ o ≠ g ∧ Below w.heap.size w w' ∧
      Blk g (.cells #[.int .u32 0, .int .i32 0, .int .u32 0, .nilIface, .slice (some ⟨o, 0, none⟩) 6 cap] 190) w' ∧ (∀ j, j < 6 → w'.cell? ⟨o, j, none⟩ = six[j]?)) := by
  have HS := Lib.hid hs
  clear hs
  have hnil := Own.nil 1 w.heap.size w.heap.size 9 w
  go_enter Tryz.func119, Tryz.ntmps119
  go_wp2_with (at_builtin; refine wpList_app_sl rfl _ _ 87 rfl 9 (.string ⟨#[]⟩) 1 16 Tryz.underlying87 info_str rfl (by decide) (by decide) rfl hnil rfl HS.out ?c0 ?c1 ?c2 ?_)
  case c0 => decide
  case c1 => omega
  case c2 => omega
  intro v1 w1 hown hgr hout _
  obtain ⟨⟨hlen, h⟩, hlt⟩ := hown
  rcases h with ⟨_, h0⟩ | ⟨o, cap, cur, rfl, hb, hg, hnc, hcm, hcs, htake⟩
  · cases h0
  · have hs1 := hout.size
    have holt := (Array.getElem?_eq_some_iff.1 hg).1
    have hcell : ∀ j, j < 6 → w1.cell? ⟨o, j, none⟩ = six[j]? := by
      intro j hj
      have h : (cur.toList.take 6)[j]? = six[j]? := congrArg (fun l => l[j]?) htake
      rw [World.cell?, hg]
      rw [List.getElem?_take, if_pos hj] at h
      simpa using h
    have HB := Lib.hid (show Below w.heap.size w w1 from ⟨hout.os, hout.tape, hout.output, hout.size, fun k hk => hout.block k hk (by omega)⟩)
    have HC := Lib.hid hcell
    clear hcell hlen hlt hgr hg hcs htake hcm hout hnil
    go_wp2
    go_ret
    refine RetV.mk _ rfl ⟨w1.heap.size, o, cap, rfl, hs1, hb, by omega, HB.out.alloc hs1 _, Blk.new _ _, fun j hj => ?_⟩
    exact (((Below.refl _ w1).alloc (Nat.le_refl _) _).cell (p := ⟨o, j, none⟩) holt).trans (HC.out j hj)

set_option maxRecDepth 100000 in
set_option maxHeartbeats 1600000 in
theorem replReplace_any (g o cap : Nat) (txt : List UInt8) (w : World) (hne : o ≠ g) (hK : Blk g (.cells #[.int .u32 0, .int .i32 0, .int .u32 0, .nilIface, .slice (some ⟨o, 0, none⟩) 6 cap] 190) w)
    (hS : ∀ j, j < 6 → w.cell? ⟨o, j, none⟩ = six[j]?) (hl : txt.length ≤ 199) :
    Calls Tryz.prog 120 #[.pointer (some ⟨g, 0, none⟩), .string ⟨txt.toArray⟩] w fun e w' => e = .returned (.string ⟨(txt.map repl8).toArray⟩) ∧ Outside g (g + 1) w w' := by
  have hmf : ∀ (fn : Fn) (first cap : Array Value) (w : World), (Instr.makeFunc fn first cap).run Tryz.prog w = .ok (.func fn first cap) w := fun _ _ _ _ => rfl
  have HK := Lib.hid hK
  have HS := Lib.hid hS
  have hlt := hK.lt
  clear hK hS
  go_enter Tryz.func120, Tryz.ntmps120
  go_wp2_with fail
  refine (do_first g o cap _ _ hne HK.out HS.out).mono ?_
  rintro e w1 ⟨rfl, t, cs, h1, h2, h3, h4, h5⟩
  have c3 := h2.cell 3
  have hm : ∀ w, Sem.run Tryz.prog (method 401 212 (.pointer (some ⟨t, 0, none⟩)) "Replace") w = .ok (⟨234, .pointer (some ⟨t, 0, none⟩)⟩) w := fun w => by kernel_rfl
  have H3 := Lib.hid h3
  have H4 := Lib.hid h4
  have H5 := Lib.hid h5
  clear h2 h3 h4 h5
  go_wp2_with fail
  refine (bReplace_any t cs txt _ H3.out H4.out hl).mono ?_
  rintro e w2 ⟨rfl, hb⟩
  have HB := Lib.hid hb
  clear hb
  go_wp2
  go_ret
  exact ⟨rfl, H5.out.trans (Outside.of_below HB.out (Nat.le_refl _))⟩
end Go.Proofs.YtjpndimhegfbnaaGreatDoor
