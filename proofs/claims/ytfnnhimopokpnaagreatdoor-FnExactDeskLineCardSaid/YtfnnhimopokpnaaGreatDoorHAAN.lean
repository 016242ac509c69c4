/- Lemmas for this seat; no condition. -/
import Derived.Test.YtfnnhimopokpnaaGreatDoorHAAM
namespace Go.Proofs.YtfnnhimopokpnaaGreatDoor
open Go.RowKit
set_option maxRecDepth 100000
set_option maxHeartbeats 0
set_option linter.unusedVariables false
theorem impl_ActText (a:Ac) (w:World) :
    Calls Tryz.prog 86 #[.agg #[.int .i64 a.kind,.int .i64 a.step.which,.bool a.step.back,.int .i64 a.step.at_,.int .i64 a.count]] w fun e w'=>e=.returned (.string ⟨(actText a).toArray⟩)∧Below w.heap.size w w':=by
  obtain ⟨k,m,c⟩:=a
  obtain ⟨w0,hw0⟩:∃ w0,w0=w.alloc (.cells #[.int .i64 k,.int .i64 m.which,.bool m.back,.int .i64 m.at_,.int .i64 c] 69):=⟨_,rfl⟩
  have HB:Hid (Below w.heap.size w w0):=by rw [hw0];exact H_ ((B_ _ _).alloc (le_ _) _)
  have K:Hid (Blk w.heap.size (.cells #[.int .i64 k,.int .i64 m.which,.bool m.back,.int .i64 m.at_,.int .i64 c] 69) w0):=by rw [hw0];exact H_ (Blk.new w _)
  have c0:=K.out.cell 0
  have c1:=K.out.cell 1
  have c2:=K.out.cell 2
  have c3:=K.out.cell 3
  have c4:=K.out.cell 4
  go_enter Tryz.func86,Tryz.ntmps86
  go_wp2_with fail
  simp only [←hw0]
  clear hw0
  go_wp2_with fail
  refine (named_any ⟨k,m,c⟩ _).mono ?_
  rintro e w1 ⟨rfl,hb⟩
  clear c0 c1 c2 c3 c4
  replace HB:=H_ (HB.out.trans (hb.mono HB.out.size))
  replace K:=H_ (K.out.below hb K.out.lt)
  clear hb
  have c0:=K.out.cell 0
  have c1:=K.out.cell 1
  have c2:=K.out.cell 2
  have c3:=K.out.cell 3
  have c4:=K.out.cell 4
  cases hN:namedB ⟨k,m,c⟩
  · have HT:=H_ (show actText ⟨k,m,c⟩=[] by simp [actText,hN])
    clear hN
    go_wp2
    go_ret
    exact ⟨ret_str (a:=[]) (by rw [HT.out]),HB.out⟩
  · cases h0:k==0
    · cases h1:k==1
      · have h2:(k==2)=true:=by
          cases h2:k==2
          · simp [namedB,h0,h1,h2] at hN
          · rfl
        have HT:=H_ (show actText ⟨k,m,c⟩=simpleT by simp only [actText,hN,h0,h1];rfl)
        clear hN
        go_wp2
        go_ret
        exact ⟨ret_str HT.out.symm,HB.out⟩
      · have h2 : (k == 2) = false := by have h : k = 1 := by simpa using h1
                                         subst h;rfl
        by_cases g1:0≤c
        · by_cases g2:c≤99
          · have HT:=H_ (show actText ⟨k,m,c⟩=backT++dig2 c.toNat by simp only [actText,hN,h0,h1];simp [g1,g2])
            clear hN
            obtain ⟨c,rfl⟩:∃ n:Nat,c=n:=⟨c.toNat,by omega⟩
            have hc:c<100:=by omega
            have l1:=dig2_len c
            clear g1
            go_wp2_with (first | (go_at_call 88;refine (Itoa_any _ _ hc).mono ?_;rintro e w' ⟨rfl,rfl⟩) | fail)
            go_ret
            exact ⟨backCat c _ HT.out,HB.out⟩
          · have HT:=H_ (show actText ⟨k,m,c⟩=[] by simp only [actText,hN,h0,h1];simp [g2])
            clear hN
            go_wp2
            go_ret
            exact ⟨ret_str (a:=[]) (by rw [HT.out]),HB.out⟩
        · have HT:=H_ (show actText ⟨k,m,c⟩=[] by simp only [actText,hN,h0,h1];simp [g1])
          clear hN
          go_wp2
          go_ret
          exact ⟨ret_str (a:=[]) (by rw [HT.out]),HB.out⟩
    · have HT:=H_ (show actText ⟨k,m,c⟩=mvText m by simp only [actText,hN,h0];rfl)
      clear hN
      go_wp2_with fail
      refine (impl_MoveText m _).mono ?_
      rintro e w2 ⟨rfl,hb⟩
      replace HB:=H_ (HB.out.trans (hb.mono HB.out.size))
      clear hb
      go_wp2
      go_ret
      exact ⟨ret_str HT.out.symm,HB.out⟩
theorem l10Small_any (n:Nat) (w:World) (h:n<100) :
  Calls Tryz.prog 54 #[.int .i64 n] w fun e w'=>e=.returned (.string ⟨(dig2 n).toArray⟩)∧Below w.heap.size w w':=by
 go_enter Tryz.func54,Tryz.ntmps54
 go_wp2_with fail
 refine (l9Number_any n _ h).mono ?_
 rintro e w1 ⟨rfl,hb⟩
 go_wp2
 go_ret
 exact ⟨rfl,hb⟩
theorem spec_ActText (a:Ac) (w:World) :
    Calls Tryz.prog 82 #[.agg #[.int .i64 a.kind,.int .i64 a.step.which,.bool a.step.back,.int .i64 a.step.at_,.int .i64 a.count]] w fun e w'=>e=.returned (.string ⟨(actText a).toArray⟩)∧Below w.heap.size w w':=by
  obtain ⟨k,m,c⟩:=a
  obtain ⟨w0,hw0⟩:∃ w0,w0=w.alloc (.cells #[.int .i64 k,.int .i64 m.which,.bool m.back,.int .i64 m.at_,.int .i64 c] 69):=⟨_,rfl⟩
  have HB:Hid (Below w.heap.size w w0):=by rw [hw0];exact H_ ((B_ _ _).alloc (le_ _) _)
  have K:Hid (Blk w.heap.size (.cells #[.int .i64 k,.int .i64 m.which,.bool m.back,.int .i64 m.at_,.int .i64 c] 69) w0):=by rw [hw0];exact H_ (Blk.new w _)
  have c0:=K.out.cell 0
  have c1:=K.out.cell 1
  have c2:=K.out.cell 2
  have c3:=K.out.cell 3
  have c4:=K.out.cell 4
  go_enter Tryz.func82,Tryz.ntmps82
  go_wp2_with fail
  simp only [←hw0]
  clear hw0
  go_wp2_with fail
  refine (l10Named_any ⟨k,m,c⟩ _).mono ?_
  rintro e w1 ⟨rfl,hb⟩
  clear c0 c1 c2 c3 c4
  replace HB:=H_ (HB.out.trans (hb.mono HB.out.size))
  replace K:=H_ (K.out.below hb K.out.lt)
  clear hb
  have c0:=K.out.cell 0
  have c1:=K.out.cell 1
  have c2:=K.out.cell 2
  have c3:=K.out.cell 3
  have c4:=K.out.cell 4
  cases hN:namedB ⟨k,m,c⟩
  · have HT:=H_ (show actText ⟨k,m,c⟩=[] by simp [actText,hN])
    clear hN
    go_wp2
    go_ret
    exact ⟨ret_str (a:=[]) (by rw [HT.out]),HB.out⟩
  · cases h0:k==0
    · cases h1:k==1
      · have h2:(k==2)=true:=by
          cases h2:k==2
          · simp [namedB,h0,h1,h2] at hN
          · rfl
        have HT:=H_ (show actText ⟨k,m,c⟩=simpleT by simp only [actText,hN,h0,h1];rfl)
        clear hN
        go_wp2
        go_ret
        exact ⟨ret_str HT.out.symm,HB.out⟩
      · have h2 : (k == 2) = false := by have h : k = 1 := by simpa using h1
                                         subst h;rfl
        cases g:inB c 0 99
        · have HT:=H_ (show actText ⟨k,m,c⟩=[] by simp [inB] at g;simp only [actText,hN,h0,h1];simp;intro g1 g2;omega)
          clear hN
          go_wp2_with (go_at_call 101;refine (l1In_any _ _ _ _).mono ?_;rintro e w' ⟨rfl,rfl⟩)
          go_ret
          exact ⟨ret_str (a:=[]) (by rw [HT.out]),HB.out⟩
        · have g1:0≤c∧c≤99:=by simpa [inB] using g
          have HT:=H_ (show actText ⟨k,m,c⟩=backT++dig2 c.toNat by simp only [actText,hN,h0,h1];simp [g1])
          clear hN
          obtain ⟨c,rfl⟩:∃ n:Nat,c=n:=⟨c.toNat,by omega⟩
          have hc:c<100:=by omega
          have l1:=dig2_len c
          clear g1
          go_wp2_with (go_at_call 101;refine (l1In_any _ _ _ _).mono ?_;rintro e w' ⟨rfl,rfl⟩)
          refine (l10Small_any c _ hc).mono ?_
          rintro e w2 ⟨rfl,hb⟩
          replace HB:=H_ (HB.out.trans (hb.mono HB.out.size))
          clear hb
          go_wp2
          go_ret
          exact ⟨backCat c _ HT.out,HB.out⟩
    · have HT:=H_ (show actText ⟨k,m,c⟩=mvText m by simp only [actText,hN,h0];rfl)
      clear hN
      go_wp2_with fail
      refine (spec_MoveText m _).mono ?_
      rintro e w2 ⟨rfl,hb⟩
      replace HB:=H_ (HB.out.trans (hb.mono HB.out.size))
      clear hb
      go_wp2
      go_ret
      exact ⟨ret_str HT.out.symm,HB.out⟩
theorem bld_info:(Tryz.prog.info? 156).map (·.size)=some 2:=by kernel_rfl
theorem bld_lies:liesAt Tryz.prog Tryz.prog.depth 156 (2/Tryz.prog.cellsOf 156) 0 156 1=true:=by kernel_rfl
theorem info_byte:(Tryz.prog.info? 5).map (fun i=>(i.zero,i.size,i.bytes))=some (some (.int .u8 0),1,1):=by kernel_rfl
theorem copyCheck_used (b:Nat) (w:World) (h0:w.cell? ⟨b,0,none⟩=some (.pointer (some ⟨b,0,none⟩))) :
  Calls Tryz.prog 185 #[.pointer (some ⟨b,0,none⟩)] w fun e w'=>e=.returned (.tuple #[])∧w'=w:=by
 obtain ⟨j,hj,_⟩:=Option.map_eq_some_iff.1 bld_info
 go_enter Tryz.func185,Tryz.ntmps185
 go_wp2
 rw [Lib.run_neq_ptr_same w _ Tryz.underlying154 hj]
 go_wp2
 go_end0
 exact ⟨rfl,rfl⟩
theorem copyCheck_fresh (b:Nat) (w:World) (h0:w.cell? ⟨b,0,none⟩=some (.pointer none)) (hsh:w.shape? b=some (156,2)) (hfz:w.frozen? ⟨b,0,none⟩=false) :
  Calls Tryz.prog 185 #[.pointer (some ⟨b,0,none⟩)] w fun e w'=>e=.returned (.tuple #[])∧w'=w.setCell ⟨b,0,none⟩ (.pointer (some ⟨b,0,none⟩)):=by
 obtain ⟨j,hj,hjs⟩:=Option.map_eq_some_iff.1 bld_info
 go_enter Tryz.func185,Tryz.ntmps185
 go_wp2
 rw [Lib.run_to_unsafe w ⟨b,0,none⟩ Tryz.underlying154 Tryz.underlying218 hj (by rw [hjs];decide) hsh (Nat.zero_lt_succ 1)]
 simp only [Result.andThen]
 rw [Oper.upon_value]
 go_wp2
 rw [run_callFunc_extern Tryz.func211 (by kernel_rfl) (by kernel_rfl) (by kernel_rfl) (e:=Extern.AbiNoEscape.same) (by kernel_rfl)]
 rw [Lib.run_noEscape]
 simp only [Result.andThen]
 rw [Oper.upon_value]
 go_wp2
 rw [Lib.run_from_unsafe w ⟨b,0,none⟩ Tryz.underlying218 Tryz.underlying154 hj hsh bld_lies]
 simp only [Result.andThen]
 rw [Oper.upon_value]
 go_wp2
 go_end0
 exact ⟨rfl,rfl⟩
abbrev Bld (B b:Nat) (bs:List UInt8) (w:World):Prop:=Lib.IsBuilderF 156 5 B b (Lib.byteCells bs) w
theorem copyCheck_any (B b:Nat) (bs:List Value) (w:World) (h:Lib.IsBuilderF 156 5 B b bs w) :
  Calls Tryz.prog 185 #[.pointer (some ⟨b,0,none⟩)] w fun e w'=>e=.returned (.tuple #[])∧(Lib.BuilderAtF 156 5 B b (.pointer (some ⟨b,0,none⟩)) bs w'∧Below B w w'):=by
 rcases h with h|h
 ·refine (copyCheck_fresh b w h.cell0 h.shape h.frozen0).mono ?_
  rintro e w' ⟨rfl,rfl⟩
  exact ⟨rfl,h.used _,(B_ B w).setCell (p:=⟨b,0,none⟩) h.1 _⟩
 ·refine (copyCheck_used b w h.cell0).mono ?_
  rintro e w' ⟨rfl,rfl⟩
  exact ⟨rfl,h,B_ B _⟩
theorem Bld_new (w:World):Bld w.heap.size w.heap.size [] (w.alloc (.cells #[.pointer none,.slice none 0 0] 156)):=
 .inl ⟨le_ _,.slice none 0 0,heap_alloc_new w _,⟨rfl,.inl ⟨rfl,rfl⟩⟩,by simp [Value.ownBlock]⟩
theorem String_any (B b:Nat) (l:List UInt8) (w:World) (h:Bld B b l w) (hBw:B≤w.heap.size) :
  Calls Tryz.prog 144 #[.pointer (some ⟨b,0,none⟩)] w fun e w'=>e=.returned (.string ⟨l.toArray⟩)∧Below B w w':=by
 refine (Tryz.Builder_String_any_k B b l w h hBw).mono ?_
 rintro e w' ⟨rfl,_,h2,_⟩
 exact ⟨rfl,h2⟩
end Go.Proofs.YtfnnhimopokpnaaGreatDoor
