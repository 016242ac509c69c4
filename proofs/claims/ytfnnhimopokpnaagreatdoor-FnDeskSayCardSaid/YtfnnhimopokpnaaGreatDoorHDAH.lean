/- Lemmas for this seat; no condition. -/
import Derived.Test.YtfnnhimopokpnaaGreatDoorHDAG
import Derived.Deep.DeepCutAuto
import Derived.Deep.DrawnRows
namespace Go.Proofs.YtfnnhimopokpnaaGreatDoor
open Go.RowKit Proofs.Tryz
set_option maxRecDepth 100000
set_option maxHeartbeats 0
set_option linter.all false
variable {gA lo hi B lo' hi':Nat} {w' w:World} {v:Value}
def RetAc(P:Ac->World->Prop)(e:Ending)(w':World):Prop:=∃ A:Ac,e=.returned (.agg #[.int .i64 A.kind,.int .i64 A.step.which,.bool A.step.back,.int .i64 A.step.at_,.int .i64 A.count])/\P A w'
theorem zv1(z:Nat)(h:z<6):∃ y:Int,(#[(0:Int),(0:Int),(0:Int),(0:Int),(1:Int),(2:Int)]:Array Value)[z]?=some (.int .i64 y)/\0<=y/\y<=2:=by
 match z,h with
 | 0,_=>exact⟨_,rfl,by omega,by omega⟩
 | 1,_=>exact⟨_,rfl,by omega,by omega⟩
 | 2,_=>exact⟨_,rfl,by omega,by omega⟩
 | 3,_=>exact⟨_,rfl,by omega,by omega⟩
 | 4,_=>exact⟨_,rfl,by omega,by omega⟩
 | 5,_=>exact⟨_,rfl,by omega,by omega⟩
def Got(g c:Nat)(w0:World)(gA:Nat)(k:Int)(wx:World):Prop:=Blk gA (.cells #[.int .i64 k,(0:Int),.bool false,(0:Int),(0:Int)] 69) wx/\w0.heap.size<=gA/\β g (g+1) w0 wx/\Rd g wx (c+2)
section
variable {g c:Nat} {w0 w2:World} (O:β g (g+1) w0 w2) (R:Rd g w2 (c+2))
include O R
theorem zht(h:w0<=w2.heap.size)(k:Int):Got g c w0 w2 k (w2.alloc (.cells #[.int .i64 k,(0:Int),.bool false,(0:Int),(0:Int)] 69)):=
 ⟨κ _ _,h,O.below (ζ _ _) h,R.al _⟩
theorem got4(h:w0<=w2.heap.size)(k:Int)(o:Obj):Got g c w0 w2 k ((w2.alloc (.cells #[.int .i64 k,(0:Int),.bool false,(0:Int),(0:Int)] 69)).alloc o):=
 ⟨(κ _ _).al,h,(O.below (ζ _ _) h).below (ζ _ _) (by simp only[μ];omega),(R.al _).al _⟩
theorem got3(h:w0<=w2.heap.size)(k:Int)(o:Obj):Got g c w0 (w2+1) k ((w2.alloc o).alloc (.cells #[.int .i64 k,(0:Int),.bool false,(0:Int),(0:Int)] 69)):=by
 have hb:=κ (w2.alloc o) (.cells #[.int .i64 k,(0:Int),.bool false,(0:Int),(0:Int)] 69);rw[μ]at hb;exact⟨hb,by omega,(O.below (ζ _ _) h).below (ζ _ _) (by simp only[μ];omega),(R.al _).al _⟩
omit O R in
theorem zda(K:Blk gA (.cells #[(0:Int),(0:Int),.bool false,(0:Int),(0:Int)] 69) w2)(O:β g (g+1) w0 w2)(R:Rd g w2 (c+2))(h:w0.heap.size<=gA)(hg:g<gA)(k:Int):
  Got g c w0 gA k (((((w2.setCell (p_ gA 0) k).setCell (p_ gA 1) (0:Int)).setCell (p_ gA 2) (.bool false)).setCell (p_ gA 3) (0:Int)).setCell (p_ gA 4) (0:Int)):=
 ⟨K.set5 _ _ _ _ _,h,O.fresh (β.set5 _ _ _ _ _ _ _) h,R.outside (β.set5 _ _ _ _ _ _ _) hg⟩
omit O R in
theorem got5(K:Blk gA (.cells #[(0:Int),(0:Int),.bool false,(0:Int),(0:Int)] 69) w2)(O:β g (g+1) w0 w2)(R:Rd g w2 (c+2))(h:w0.heap.size<=gA)(hg:g<gA)(k:Int)(o:Obj):
  Got g c w0 gA k ((((((w2.alloc o).setCell (p_ gA 0) k).setCell (p_ gA 1) (0:Int)).setCell (p_ gA 2) (.bool false)).setCell (p_ gA 3) (0:Int)).setCell (p_ gA 4) (0:Int)):=
 zda K.al (O.below (ζ _ _) O.size) (R.al _) h hg k
end
theorem zlo(g c lo hi:Nat)(d0 d1 d2 d3:Value)(D:Dsk)(w:World)(h:Rd g w c)(hc:c<=1000000)(hx:Θ lo hi w d0 d1 d2 d3 D)(hh:hi<=w)(hap:g+1<=lo)(hm:D.size<=10000):
  Calls prog 81 #[.pointer (q_ g 0),ο d0 d1 d2 d3] w (RetAc λ_ w'=>β g (g+1) w w'/\Rd g w' (c+120)):=by
 have hg:=h.lt;unfold Dsk.size at hm;have⟨w0,hw0⟩:=ex_ ((w.alloc (.cells #[d0,d1,d2,d3] 31)).alloc (.cells #[(0:Int),(0:Int),.bool false,(0:Int),(0:Int)] 69));have hb0:Below w w w0:=by rw[hw0];exact((B_ _ _).alloc (le_ _) _).alloc (by simp) _
 have hs0:w+2<=w0.heap.size:=by rw[hw0];simp
 have KD:Q_ (Blk w (.cells #[d0,d1,d2,d3] 31) w0):=by
  rw[hw0];exact H_ ((κ w _).below ((B_ (w.alloc _).heap.size _).alloc (le_ _) _) (by simp))
 have KR:Q_ (Blk (w+1) (.cells #[(0:Int),(0:Int),.bool false,(0:Int),(0:Int)] 69) w0):=by
  have h:=κ (w.alloc (.cells #[d0,d1,d2,d3] 31)) (.cells #[(0:Int),(0:Int),.bool false,(0:Int),(0:Int)] 69);rw[μ]at h;rw[hw0];exact H_ h
 have HR:=H_ (h.below hb0 hg);have HO:=H_ ((β.refl g (g+1) w).below hb0 (le_ _));have HX:=H_ (hx.below hb0 hh);have HW0:=H_ hw0;clear h hx hb0 hw0;have hg0:g<w0:=by omega
 go_enter func81,ntmps81
 go_upto_region 1 with(rw[<-HW0.o])
 try rw[<-HW0.o]
 go_cut [5] (λp wx=>∃ (gA:Nat) (k:Int),p=.pointer (q_ gA 0)/\Q_ (Got g c w0 gA k wx))
 case first=>
  clear HW0 HX HO KD KR
  go_region_with (first
   | (go_at_call_of 72 (Value.int .i64 6);refine(Δ g c 6 _ (by repeat first | with_reducible exact HR.o | with_reducible apply Rd.drew | with_reducible apply Rd.al) (by omega)).mono ?_;rintro e1 w1 ⟨q1,rfl,i_,o1,r1⟩;obtain⟨i1,i2⟩:=i_.lt (by omega);clear i_;obtain⟨z,rfl⟩:∃ z:Nat,q1=z:=⟨q1.toNat,by omega⟩;obtain⟨y,hy,y1,y2⟩:=zv1 z (by omega);(have hz1:=o1.size);(have hg1:=r1.lt);(have R1:=H_ r1);clear r1;(have O1:Q_ (β g (g+1) w0 w1):=H_ (o1.grew (by repeat first | with_reducible exact zdd.refl _ | with_reducible apply zdd.drew | with_reducible apply zdd.al)));(have n1:=zmw w1 (T:=3) hy);(have n2:=zrr w1 (.cells #[(0:Int),(0:Int),.bool false,(0:Int),(0:Int)] 69) (T:=3) hy);(have n3:=zse w1 (.cells #[(0:Int),(0:Int),.bool false,(0:Int),(0:Int)] 69) (T:=3) hy);with_reducible (first | (obtain⟨ka,kb⟩:Blk w0 (.cells #[(0:Int),(0:Int),(0:Int),(0:Int),(1:Int),(2:Int)] 3) _/\Blk (w0+1) (.cells #[(0:Int),(0:Int),.bool false,(0:Int),(0:Int)] 69) _:=hop2 o1 hg0;(have cl:=ka.cell z);(have cx:=(zba (x:=(.cells #[(0:Int),(0:Int),.bool false,(0:Int),(0:Int)] 69)) ka).cell z);(have KL:=H_ ka);clear ka;(have ca0:=kb.cell 0);(have fa0:=kb.free 0);(have ca1:=kb.cell 1);(have fa1:=kb.free 1);(have ca2:=kb.cell 2);(have fa2:=kb.free 2);(have ca3:=kb.cell 3);(have fa3:=kb.free 3);(have ca4:=kb.cell 4);(have fa4:=kb.free 4);(have kx:=zba (x:=(.cells #[(0:Int),(0:Int),(0:Int),(0:Int),(1:Int),(2:Int)] 3)) kb);(have da0:=kx.cell 0);(have ga0:=kx.free 0);(have da1:=kx.cell 1);(have ga1:=kx.free 1);(have da2:=kx.cell 2);(have ga2:=kx.free 2);(have da3:=kx.cell 3);(have ga3:=kx.free 3);(have da4:=kx.cell 4);(have ga4:=kx.free 4);clear kx;(have KA:=H_ kb);clear kb) | (obtain⟨ka,kb⟩:Blk w0 (.cells #[(0:Int),(0:Int),.bool false,(0:Int),(0:Int)] 69) _/\Blk (w0+1) (.cells #[(0:Int),(0:Int),(0:Int),(0:Int),(1:Int),(2:Int)] 3) _:=hop2 o1 hg0;(have ca0:=ka.cell 0);(have fa0:=ka.free 0);(have ca1:=ka.cell 1);(have fa1:=ka.free 1);(have ca2:=ka.cell 2);(have fa2:=ka.free 2);(have ca3:=ka.cell 3);(have fa3:=ka.free 3);(have ca4:=ka.cell 4);(have fa4:=ka.free 4);(have kx:=zba (x:=(.cells #[(0:Int),(0:Int),(0:Int),(0:Int),(1:Int),(2:Int)] 3)) ka);(have da0:=kx.cell 0);(have ga0:=kx.free 0);(have da1:=kx.cell 1);(have ga1:=kx.free 1);(have da2:=kx.cell 2);(have ga2:=kx.free 2);(have da3:=kx.cell 3);(have ga3:=kx.free 3);(have da4:=kx.cell 4);(have ga4:=kx.free 4);clear kx;(have KA:=H_ ka);clear ka;(have cl:=kb.cell z);(have cx:=(zba (x:=(.cells #[(0:Int),(0:Int),.bool false,(0:Int),(0:Int)] 69)) kb).cell z);(have KL:=H_ kb);clear kb) | (have ka:Blk w0 (.cells #[(0:Int),(0:Int),(0:Int),(0:Int),(1:Int),(2:Int)] 3) _:=hop1 o1 hg0;(have cl:=ka.cell z);(have cx:=(zba (x:=(.cells #[(0:Int),(0:Int),.bool false,(0:Int),(0:Int)] 69)) ka).cell z);(have KL:=H_ ka);clear ka) | (have ka:Blk w0 (.cells #[(0:Int),(0:Int),.bool false,(0:Int),(0:Int)] 69) _:=hop1 o1 hg0;(have ca0:=ka.cell 0);(have fa0:=ka.free 0);(have ca1:=ka.cell 1);(have fa1:=ka.free 1);(have ca2:=ka.cell 2);(have fa2:=ka.free 2);(have ca3:=ka.cell 3);(have fa3:=ka.free 3);(have ca4:=ka.cell 4);(have fa4:=ka.free 4);(have kx:=zba (x:=(.cells #[(0:Int),(0:Int),(0:Int),(0:Int),(1:Int),(2:Int)] 3)) ka);(have da0:=kx.cell 0);(have ga0:=kx.free 0);(have da1:=kx.cell 1);(have ga1:=kx.free 1);(have da2:=kx.cell 2);(have ga2:=kx.free 2);(have da3:=kx.cell 3);(have ga3:=kx.free 3);(have da4:=kx.cell 4);(have ga4:=kx.free 4);clear kx;(have KA:=H_ ka);clear ka) | skip);clear o1)
   | (go_at_call_of 72 (Value.int .i64 60);refine(Δ g (c+1) 60 _ (by repeat first | with_reducible exact R1.o | with_reducible apply Rd.drew | with_reducible apply Rd.al) (by omega)).mono ?_;rintro e2 w2 ⟨q2,rfl,i_,o2,r2⟩;obtain⟨j1,j2⟩:=i_.lt (by omega);clear i_;(have hz2:=o2.size);(have R2:=H_ r2);clear r2;(have O2:Q_ (β g (g+1) w0 w2):=H_ (O1.o.trans (o2.grew (by repeat first | with_reducible exact zdd.refl _ | with_reducible apply zdd.drew | with_reducible apply zdd.al))));(have m1:=zmw w2 (T:=3) hy);(have m2:=zrr w2 (.cells #[(0:Int),(0:Int),.bool false,(0:Int),(0:Int)] 69) (T:=3) hy);(have m3:=zse w2 (.cells #[(0:Int),(0:Int),.bool false,(0:Int),(0:Int)] 69) (T:=3) hy);(with_reducible try (first | (have ka:=zcc KL.o o2 (.inr (by omega));clear KL;(have cl:=ka.cell z);(have cx:=(zba (x:=(.cells #[(0:Int),(0:Int),.bool false,(0:Int),(0:Int)] 69)) ka).cell z);(have KL:=H_ ka);clear ka) | (have ka:=zcc (zba KL.o) o2 (.inr (by omega));clear KL;(have cl:=ka.cell z);(have cx:=(zba (x:=(.cells #[(0:Int),(0:Int),.bool false,(0:Int),(0:Int)] 69)) ka).cell z);(have KL:=H_ ka);clear ka) | (have ka:=zcc (zba (zba KL.o)) o2 (.inr (by omega));clear KL;(have cl:=ka.cell z);(have cx:=(zba (x:=(.cells #[(0:Int),(0:Int),.bool false,(0:Int),(0:Int)] 69)) ka).cell z);(have KL:=H_ ka);clear ka)));(with_reducible try (first | (have ka:=zcc KA.o o2 (.inr (by omega));clear KA;(have ca0:=ka.cell 0);(have fa0:=ka.free 0);(have ca1:=ka.cell 1);(have fa1:=ka.free 1);(have ca2:=ka.cell 2);(have fa2:=ka.free 2);(have ca3:=ka.cell 3);(have fa3:=ka.free 3);(have ca4:=ka.cell 4);(have fa4:=ka.free 4);(have kx:=zba (x:=(.cells #[(0:Int),(0:Int),(0:Int),(0:Int),(1:Int),(2:Int)] 3)) ka);(have da0:=kx.cell 0);(have ga0:=kx.free 0);(have da1:=kx.cell 1);(have ga1:=kx.free 1);(have da2:=kx.cell 2);(have ga2:=kx.free 2);(have da3:=kx.cell 3);(have ga3:=kx.free 3);(have da4:=kx.cell 4);(have ga4:=kx.free 4);clear kx;(have KA:=H_ ka);clear ka) | (have ka:=zcc (zba KA.o) o2 (.inr (by omega));clear KA;(have ca0:=ka.cell 0);(have fa0:=ka.free 0);(have ca1:=ka.cell 1);(have fa1:=ka.free 1);(have ca2:=ka.cell 2);(have fa2:=ka.free 2);(have ca3:=ka.cell 3);(have fa3:=ka.free 3);(have ca4:=ka.cell 4);(have fa4:=ka.free 4);(have kx:=zba (x:=(.cells #[(0:Int),(0:Int),(0:Int),(0:Int),(1:Int),(2:Int)] 3)) ka);(have da0:=kx.cell 0);(have ga0:=kx.free 0);(have da1:=kx.cell 1);(have ga1:=kx.free 1);(have da2:=kx.cell 2);(have ga2:=kx.free 2);(have da3:=kx.cell 3);(have ga3:=kx.free 3);(have da4:=kx.cell 4);(have ga4:=kx.free 4);clear kx;(have KA:=H_ ka);clear ka) | (have ka:=zcc (zba (zba KA.o)) o2 (.inr (by omega));clear KA;(have ca0:=ka.cell 0);(have fa0:=ka.free 0);(have ca1:=ka.cell 1);(have fa1:=ka.free 1);(have ca2:=ka.cell 2);(have fa2:=ka.free 2);(have ca3:=ka.cell 3);(have fa3:=ka.free 3);(have ca4:=ka.cell 4);(have fa4:=ka.free 4);(have kx:=zba (x:=(.cells #[(0:Int),(0:Int),(0:Int),(0:Int),(1:Int),(2:Int)] 3)) ka);(have da0:=kx.cell 0);(have ga0:=kx.free 0);(have da1:=kx.cell 1);(have ga1:=kx.free 1);(have da2:=kx.cell 2);(have ga2:=kx.free 2);(have da3:=kx.cell 3);(have ga3:=kx.free 3);(have da4:=kx.cell 4);(have ga4:=kx.free 4);clear kx;(have KA:=H_ ka);clear ka)));(with_reducible (first | (obtain⟨ka,kb⟩:Blk w1 (.cells #[(0:Int),(0:Int),(0:Int),(0:Int),(1:Int),(2:Int)] 3) _/\Blk (w1+1) (.cells #[(0:Int),(0:Int),.bool false,(0:Int),(0:Int)] 69) _:=hop4 o2 hg1;(have cl:=ka.cell z);(have cx:=(zba (x:=(.cells #[(0:Int),(0:Int),.bool false,(0:Int),(0:Int)] 69)) ka).cell z);(have KL:=H_ ka);clear ka;(have ca0:=kb.cell 0);(have fa0:=kb.free 0);(have ca1:=kb.cell 1);(have fa1:=kb.free 1);(have ca2:=kb.cell 2);(have fa2:=kb.free 2);(have ca3:=kb.cell 3);(have fa3:=kb.free 3);(have ca4:=kb.cell 4);(have fa4:=kb.free 4);(have kx:=zba (x:=(.cells #[(0:Int),(0:Int),(0:Int),(0:Int),(1:Int),(2:Int)] 3)) kb);(have da0:=kx.cell 0);(have ga0:=kx.free 0);(have da1:=kx.cell 1);(have ga1:=kx.free 1);(have da2:=kx.cell 2);(have ga2:=kx.free 2);(have da3:=kx.cell 3);(have ga3:=kx.free 3);(have da4:=kx.cell 4);(have ga4:=kx.free 4);clear kx;(have KA:=H_ kb);clear kb) | (obtain⟨ka,kb⟩:Blk w1 (.cells #[(0:Int),(0:Int),.bool false,(0:Int),(0:Int)] 69) _/\Blk (w1+1) (.cells #[(0:Int),(0:Int),(0:Int),(0:Int),(1:Int),(2:Int)] 3) _:=hop4 o2 hg1;(have ca0:=ka.cell 0);(have fa0:=ka.free 0);(have ca1:=ka.cell 1);(have fa1:=ka.free 1);(have ca2:=ka.cell 2);(have fa2:=ka.free 2);(have ca3:=ka.cell 3);(have fa3:=ka.free 3);(have ca4:=ka.cell 4);(have fa4:=ka.free 4);(have kx:=zba (x:=(.cells #[(0:Int),(0:Int),(0:Int),(0:Int),(1:Int),(2:Int)] 3)) ka);(have da0:=kx.cell 0);(have ga0:=kx.free 0);(have da1:=kx.cell 1);(have ga1:=kx.free 1);(have da2:=kx.cell 2);(have ga2:=kx.free 2);(have da3:=kx.cell 3);(have ga3:=kx.free 3);(have da4:=kx.cell 4);(have ga4:=kx.free 4);clear kx;(have KA:=H_ ka);clear ka;(have cl:=kb.cell z);(have cx:=(zba (x:=(.cells #[(0:Int),(0:Int),.bool false,(0:Int),(0:Int)] 69)) kb).cell z);(have KL:=H_ kb);clear kb) | (have ka:Blk w1 (.cells #[(0:Int),(0:Int),(0:Int),(0:Int),(1:Int),(2:Int)] 3) _:=zie o2 hg1;(have cl:=ka.cell z);(have cx:=(zba (x:=(.cells #[(0:Int),(0:Int),.bool false,(0:Int),(0:Int)] 69)) ka).cell z);(have KL:=H_ ka);clear ka) | (have ka:Blk w1 (.cells #[(0:Int),(0:Int),.bool false,(0:Int),(0:Int)] 69) _:=zie o2 hg1;(have ca0:=ka.cell 0);(have fa0:=ka.free 0);(have ca1:=ka.cell 1);(have fa1:=ka.free 1);(have ca2:=ka.cell 2);(have fa2:=ka.free 2);(have ca3:=ka.cell 3);(have fa3:=ka.free 3);(have ca4:=ka.cell 4);(have fa4:=ka.free 4);(have kx:=zba (x:=(.cells #[(0:Int),(0:Int),(0:Int),(0:Int),(1:Int),(2:Int)] 3)) ka);(have da0:=kx.cell 0);(have ga0:=kx.free 0);(have da1:=kx.cell 1);(have ga1:=kx.free 1);(have da2:=kx.cell 2);(have ga2:=kx.free 2);(have da3:=kx.cell 3);(have ga3:=kx.free 3);(have da4:=kx.cell 4);(have ga4:=kx.free 4);clear kx;(have KA:=H_ ka);clear ka) | skip));clear o2))
  ·go_wp2_with fail
   go_meet
   exact⟨_,_,rfl,H_ (zht O2.o R2.o (by have h1_:=O1.o.size;have h2_:=O2.o.size;omega) _)⟩
  ·go_wp2_with fail
   go_meet
   exact⟨_,_,rfl,H_ (zda KA.o O2.o R2.o (by have h1_:=O1.o.size;have h2_:=O2.o.size;omega) (by have h1_:=O1.o.size;have h2_:=O2.o.size;omega) _)⟩
  ·go_wp2_with fail
   go_meet
   exact⟨_,_,rfl,H_ (zht O2.o R2.o (by have h1_:=O1.o.size;have h2_:=O2.o.size;omega) _)⟩
  ·go_wp2_with fail
   go_meet
   exact⟨_,_,rfl,H_ (zht O2.o R2.o (by have h1_:=O1.o.size;have h2_:=O2.o.size;omega) _)⟩
  ·go_wp2_with fail
   go_meet
   exact⟨_,_,rfl,H_ (zda KA.o O2.o R2.o (by have h1_:=O1.o.size;have h2_:=O2.o.size;omega) (by have h1_:=O1.o.size;have h2_:=O2.o.size;omega) _)⟩
  ·go_wp2_with fail
   go_meet
   exact⟨_,_,rfl,H_ (zda KA.o O2.o R2.o (by have h1_:=O1.o.size;have h2_:=O2.o.size;omega) (by have h1_:=O1.o.size;have h2_:=O2.o.size;omega) _)⟩
  ·go_wp2_with fail
   go_meet
   exact⟨_,_,rfl,H_ (zda KA.o O2.o R2.o (by have h1_:=O1.o.size;have h2_:=O2.o.size;omega) (by have h1_:=O1.o.size;have h2_:=O2.o.size;omega) _)⟩
  ·go_wp2_with fail
   go_meet
   exact⟨_,_,rfl,H_ (zda KA.o O2.o R2.o (by have h1_:=O1.o.size;have h2_:=O2.o.size;omega) (by have h1_:=O1.o.size;have h2_:=O2.o.size;omega) _)⟩
  ·go_wp2_with fail
   go_meet
   exact⟨_,_,rfl,H_ (zht O2.o R2.o (by have h1_:=O1.o.size;have h2_:=O2.o.size;omega) _)⟩
  ·go_wp2_with fail
   go_meet
   exact⟨_,_,rfl,H_ (zda KA.o O2.o R2.o (by have h1_:=O1.o.size;have h2_:=O2.o.size;omega) (by have h1_:=O1.o.size;have h2_:=O2.o.size;omega) _)⟩
  ·go_wp2_with fail
   go_meet
   exact⟨_,_,rfl,H_ (zht O2.o R2.o (by have h1_:=O1.o.size;have h2_:=O2.o.size;omega) _)⟩
  ·go_wp2_with fail
   go_meet
   exact⟨_,_,rfl,H_ (zht O2.o R2.o (by have h1_:=O1.o.size;have h2_:=O2.o.size;omega) _)⟩
  ·go_wp2_with fail
   go_meet
   exact⟨_,_,rfl,H_ (zda KA.o O2.o R2.o (by have h1_:=O1.o.size;have h2_:=O2.o.size;omega) (by have h1_:=O1.o.size;have h2_:=O2.o.size;omega) _)⟩
  ·go_wp2_with fail
   go_meet
   exact⟨_,_,rfl,H_ (zda KA.o O2.o R2.o (by have h1_:=O1.o.size;have h2_:=O2.o.size;omega) (by have h1_:=O1.o.size;have h2_:=O2.o.size;omega) _)⟩
  ·go_wp2_with fail
   go_meet
   exact⟨_,_,rfl,H_ (got3 O2.o R2.o (by have h1_:=O1.o.size;have h2_:=O2.o.size;omega) _ _)⟩
  ·go_wp2_with fail
   go_meet
   exact⟨_,_,rfl,H_ (got3 O2.o R2.o (by have h1_:=O1.o.size;have h2_:=O2.o.size;omega) _ _)⟩
  ·go_wp2_with fail
   go_meet
   exact⟨_,_,rfl,H_ (got4 O2.o R2.o (by have h1_:=O1.o.size;have h2_:=O2.o.size;omega) _ _)⟩
  ·go_wp2_with fail
   go_meet
   exact⟨_,_,rfl,H_ (zda KA.o O2.o R2.o (by have h1_:=O1.o.size;have h2_:=O2.o.size;omega) (by have h1_:=O1.o.size;have h2_:=O2.o.size;omega) _)⟩
  ·go_wp2_with fail
   go_meet
   exact⟨_,_,rfl,H_ (zda KA.o O2.o R2.o (by have h1_:=O1.o.size;have h2_:=O2.o.size;omega) (by have h1_:=O1.o.size;have h2_:=O2.o.size;omega) _)⟩
  ·go_wp2_with fail
   go_meet
   exact⟨_,_,rfl,H_ (got5 KA.o O2.o R2.o (by have h1_:=O1.o.size;have h2_:=O2.o.size;omega) (by have h1_:=O1.o.size;have h2_:=O2.o.size;omega) _ _)⟩
  ·go_wp2_with fail
   go_meet
   exact⟨_,_,rfl,H_ (zda KA.o O2.o R2.o (by have h1_:=O1.o.size;have h2_:=O2.o.size;omega) (by have h1_:=O1.o.size;have h2_:=O2.o.size;omega) _)⟩
  ·go_wp2_with fail
   go_meet
   exact⟨_,_,rfl,H_ (zda KA.o O2.o R2.o (by have h1_:=O1.o.size;have h2_:=O2.o.size;omega) (by have h1_:=O1.o.size;have h2_:=O2.o.size;omega) _)⟩
  ·go_wp2_with fail
   go_meet
   exact⟨_,_,rfl,H_ (zda KA.o O2.o R2.o (by have h1_:=O1.o.size;have h2_:=O2.o.size;omega) (by have h1_:=O1.o.size;have h2_:=O2.o.size;omega) _)⟩
  ·go_wp2_with fail
   go_meet
   exact⟨_,_,rfl,H_ (zda KA.o O2.o R2.o (by have h1_:=O1.o.size;have h2_:=O2.o.size;omega) (by have h1_:=O1.o.size;have h2_:=O2.o.size;omega) _)⟩
  ·go_wp2_with fail
   go_meet
   exact⟨_,_,rfl,H_ (got5 KA.o O2.o R2.o (by have h1_:=O1.o.size;have h2_:=O2.o.size;omega) (by have h1_:=O1.o.size;have h2_:=O2.o.size;omega) _ _)⟩
 case rest=>
  obtain⟨gA,k,rfl,HQ⟩:=hcut;obtain⟨w1,rfl⟩:=ex_ wc;obtain⟨KA_,hgA,O_,R__⟩:=HQ.o;have KA:=H_ KA_;have HO1:=H_ (HO.o.trans O_);have HR1:=H_ R__;replace KR:=H_ (KR.o.outside O_ (.inr (by omega)));replace KD:=H_ (KD.o.outside O_ (.inr (by omega)));replace HX:=H_ (HX.o.outside O_ (.inr (by omega)));have hz1:=O_.size;have hl1:=KA_.lt;clear HQ KA_ O_ R__ HO HR HW0;have hwA:w.heap.size+2<=gA:=by omega
  by_cases k0:k=0
  ·subst k0
   have d3:=KD.o.cell 3;have⟨k0_,k1_,k2_,k3_⟩:=KA.o.c4;have g1_:=KA.o.free 1;have g2_:=KA.o.free 2;have g3_:=KA.o.free 3;go_wp2_with fail
   clear d3 k0_ k1_ k2_ k3_ g1_ g2_ g3_;refine(zu3 g (c+2) lo hi _ D.now _ HR1.o (by omega) HX.o.now (by omega) (by omega) hap).mono ?_;rintro e w3 ⟨m,rfl,ho_,hr_⟩;replace KA:=H_ (KA.o.outside ho_ (.inr (by omega)));replace KR:=H_ (KR.o.outside ho_ (.inr (by omega)));replace HO1:=H_ (HO1.o.trans ho_);replace HR1:=H_ hr_;have hz_w3:=ho_.size;have k1_:=KA.o.cell 1;have k2_:=KA.o.cell 2;have k3_:=KA.o.cell 3;have g1_:=KA.o.free 1;have g2_:=KA.o.free 2;have g3_:=KA.o.free 3;have⟨w5,hw5⟩:=ex_ (((w3.setCell (p_ gA 1) (.int .i64 m.which)).setCell (p_ gA 2) (.bool m.back)).setCell (p_ gA 3) (.int .i64 m.at_));have O5:=β.put3 gA w3 (.int .i64 m.which) (.bool m.back) (.int .i64 m.at_);have K5:=KA.o.put3 (.int .i64 m.which) (.bool m.back) (.int .i64 m.at_);rw[<-hw5]at O5 K5;have KR5:=KR.o.outside O5 (by omega);have HO5:=HO1.o.fresh O5 (by omega);have HR5:=HR1.o.outside O5 (by omega);have hz5:=O5.size;have HW5:=H_ hw5;clear hw5 O5;go_upto_region 7 with(rw[<-HW5.o])
   try rw[<-HW5.o]
   clear KA KR HO1 HR1 k1_ k2_ k3_ g1_ g2_ g3_ HW5;have KA:=H_ K5;have KR:=H_ KR5;have HO1:=H_ HO5;have HR1:=H_ HR5;clear K5 KR5 HO5 HR5;clear ho_ hr_;go_wp2_with fail
   refine(zf7 g _ 40 _ HR1.o (by omega) (by omega)).mono ?_;rintro e w8 ⟨b_,rfl,ho_,hr_⟩;replace KA:=H_ (KA.o.outside ho_ (.inr (by omega)));replace KR:=H_ (KR.o.outside ho_ (.inr (by omega)));replace HO1:=H_ (HO1.o.trans ho_);replace HR1:=H_ hr_;have hz_w8:=ho_.size;clear ho_ hr_;cases b_
   ·(have⟨q0,q1,q2,q3,q4⟩:=KA.o.c5);(have⟨r0,r1,r2,r3,r4⟩:=KR.o.c5;have⟨s0,s1,s2,s3,s4⟩:=KR.o.f5;have⟨wz,hwz⟩:=x5_ w8 (w+1) (.int .i64 (0)) (.int .i64 (m.which)) (.bool m.back) (.int .i64 (m.at_)) (.int .i64 (0));have KZ:=KR.o.set5 (.int .i64 (0)) (.int .i64 (m.which)) (.bool m.back) (.int .i64 (m.at_)) (.int .i64 (0));have OZ:=β.set5 (w+1) w8 (.int .i64 (0)) (.int .i64 (m.which)) (.bool m.back) (.int .i64 (m.at_)) (.int .i64 (0));rw[<-hwz]at KZ OZ;obtain⟨z0,z1,z2,z3,z4⟩:=KZ.c5;have HE:=H_ (a_ (HO1.o.fresh OZ (by omega)) ((HR1.o.outside OZ (by omega)).mono (show _<=c+120 by omega)));clear KZ OZ;go_wp2_with fail);simp only[<-hwz];clear hwz;refine d_ (v:=.agg #[.int .i64 (0),.int .i64 (m.which),.bool m.back,.int .i64 (m.at_),.int .i64 (0)]) (by simp[results,results81,go_sem,z0,z1,z2,z3,z4]) rfl ⟨⟨0,⟨m.which,m.back,m.at_⟩,0⟩,rfl,HE.o⟩
   ·(have p4:=KA.o.cell 4);(have p5:=KA.o.free 4;have pd4:=(KA.o.drew).cell 4;have pd5:=(KA.o.drew).free 4;go_upto_region 8 with fail);go_cut [] (λwx=>∃ k8:Int,Q_ (Blk gA (.cells #[.int .i64 (0),.int .i64 (m.which),.bool m.back,.int .i64 (m.at_),.int .i64 k8] 69) wx/\β g (g+1) w wx/\Rd g wx (c+110)/\Blk (w+1) (.cells #[(0:Int),(0:Int),.bool false,(0:Int),(0:Int)] 69) wx))
    case first=>
     go_region_with (first
      | (go_at_call 72;refine(Δ g _ 120 _ (by repeat first | with_reducible exact HR1.o | with_reducible apply Rd.drew) (by omega)).mono ?_;rintro e9 w9 ⟨q9,rfl,i9_,o9_,r9_⟩;(have hz9:=o9_.size);(have ka9:=zcc (KA.o.drew) o9_ (.inr (by omega)));(have p9:=ka9.cell 4);(have f9:=ka9.free 4);(have K9:=H_ ka9);(have R9:=H_ r9_);(have O9:=H_ o9_.undrew);clear ka9 r9_ o9_ i9_))
     all_goals (
      go_wp2_with fail
      go_meet
      exact⟨_,H_ ⟨K9.o.put4 _,(HO1.o.trans O9.o).fresh (β.pute _ _ _ _) (by omega),(R9.o.outside (β.pute _ _ _ _) (by omega)).mono (by omega),(KR.o.outside O9.o (.inr (by omega))).outside (β.pute _ _ _ _) (by omega)⟩⟩)
    case rest=>
     (obtain⟨k8,H8⟩:=hcut;obtain⟨w9,rfl⟩:=ex_ wc;obtain⟨ka_,o_,r_,kr_⟩:=H8.o;clear H8 KA KR;have KA:=H_ ka_;have KR:=H_ kr_;replace HO1:=H_ o_;replace HR1:=H_ r_;have hz_9:=o_.size;clear ka_ o_ r_ kr_ p4 p5 pd4 pd5;have⟨q0,q1,q2,q3,q4⟩:=KA.o.c5;have⟨r0,r1,r2,r3,r4⟩:=KR.o.c5;have⟨s0,s1,s2,s3,s4⟩:=KR.o.f5;have⟨wz,hwz⟩:=x5_ w9 (w+1) (.int .i64 (0)) (.int .i64 (m.which)) (.bool m.back) (.int .i64 (m.at_)) (.int .i64 (k8));have KZ:=KR.o.set5 (.int .i64 (0)) (.int .i64 (m.which)) (.bool m.back) (.int .i64 (m.at_)) (.int .i64 (k8));have OZ:=β.set5 (w+1) w9 (.int .i64 (0)) (.int .i64 (m.which)) (.bool m.back) (.int .i64 (m.at_)) (.int .i64 (k8));rw[<-hwz]at KZ OZ;obtain⟨z0,z1,z2,z3,z4⟩:=KZ.c5;have HE:=H_ (a_ (HO1.o.fresh OZ (by omega)) ((HR1.o.outside OZ (by omega)).mono (show _<=c+120 by omega)));clear KZ OZ;go_wp2_with fail);simp only[<-hwz];clear hwz;refine d_ (v:=.agg #[.int .i64 (0),.int .i64 (m.which),.bool m.back,.int .i64 (m.at_),.int .i64 (k8)]) (by simp[results,results81,go_sem,z0,z1,z2,z3,z4]) rfl ⟨⟨0,⟨m.which,m.back,m.at_⟩,k8⟩,rfl,HE.o⟩
  ·by_cases k1:k=1
   ·subst k1
    (have k0_:=KA.o.cell 0;have k4_:=KA.o.cell 4;have g4_:=KA.o.free 4;go_wp2_with fail);clear k0_ k4_ g4_;refine(Δ g (c+2) 3 _ HR1.o (by omega)).mono ?_;rintro e w3 ⟨qb,rfl,i3_,ho_,hr_⟩;replace KA:=H_ (KA.o.outside ho_ (.inr (by omega)));replace KR:=H_ (KR.o.outside ho_ (.inr (by omega)));replace HO1:=H_ (HO1.o.trans ho_);replace HR1:=H_ hr_;have hz_w3:=ho_.size;have g4_:=KA.o.free 4;have k4_:=KA.o.cell 4;obtain⟨i31,i32⟩:=i3_.lt (by omega);clear i3_;have⟨w5,hw5⟩:=ex_ (w3.setCell (p_ gA 4) (.int .i64 (1+qb)));have O5:=β.pute gA 4 w3 (.int .i64 (1+qb));have K5:=KA.o.put4 (.int .i64 (1+qb));rw[<-hw5]at O5 K5;have KR5:=KR.o.outside O5 (by omega);have HO5:=HO1.o.fresh O5 (by omega);have HR5:=HR1.o.outside O5 (by omega);have hz5:=O5.size;have HW5:=H_ hw5;clear hw5 O5;go_upto_region 7 with(rw[<-HW5.o])
    try rw[<-HW5.o]
    clear KA KR HO1 HR1 k4_ g4_ HW5;have KA:=H_ K5;have KR:=H_ KR5;have HO1:=H_ HO5;have HR1:=H_ HR5;clear K5 KR5 HO5 HR5;clear ho_ hr_;go_wp2_with fail
    refine(zf7 g _ 40 _ HR1.o (by omega) (by omega)).mono ?_;rintro e w8 ⟨b_,rfl,ho_,hr_⟩;replace KA:=H_ (KA.o.outside ho_ (.inr (by omega)));replace KR:=H_ (KR.o.outside ho_ (.inr (by omega)));replace HO1:=H_ (HO1.o.trans ho_);replace HR1:=H_ hr_;have hz_w8:=ho_.size;clear ho_ hr_;cases b_
    ·(have⟨q0,q1,q2,q3,q4⟩:=KA.o.c5);(have⟨r0,r1,r2,r3,r4⟩:=KR.o.c5;have⟨s0,s1,s2,s3,s4⟩:=KR.o.f5;have⟨wz,hwz⟩:=x5_ w8 (w+1) (.int .i64 (1)) (.int .i64 (0)) (.bool false) (.int .i64 (0)) (.int .i64 (1+qb));have KZ:=KR.o.set5 (.int .i64 (1)) (.int .i64 (0)) (.bool false) (.int .i64 (0)) (.int .i64 (1+qb));have OZ:=β.set5 (w+1) w8 (.int .i64 (1)) (.int .i64 (0)) (.bool false) (.int .i64 (0)) (.int .i64 (1+qb));rw[<-hwz]at KZ OZ;obtain⟨z0,z1,z2,z3,z4⟩:=KZ.c5;have HE:=H_ (a_ (HO1.o.fresh OZ (by omega)) ((HR1.o.outside OZ (by omega)).mono (show _<=c+120 by omega)));clear KZ OZ;go_wp2_with fail);simp only[<-hwz];clear hwz;refine d_ (v:=.agg #[.int .i64 (1),.int .i64 (0),.bool false,.int .i64 (0),.int .i64 (1+qb)]) (by simp[results,results81,go_sem,z0,z1,z2,z3,z4]) rfl ⟨⟨1,⟨0,false,0⟩,1+qb⟩,rfl,HE.o⟩
    ·(have p4:=KA.o.cell 4);(have p5:=KA.o.free 4;have pd4:=(KA.o.drew).cell 4;have pd5:=(KA.o.drew).free 4;go_upto_region 8 with fail);go_cut [] (λwx=>∃ k8:Int,Q_ (Blk gA (.cells #[.int .i64 (1),.int .i64 (0),.bool false,.int .i64 (0),.int .i64 k8] 69) wx/\β g (g+1) w wx/\Rd g wx (c+110)/\Blk (w+1) (.cells #[(0:Int),(0:Int),.bool false,(0:Int),(0:Int)] 69) wx))
     case first=>
      go_region_with (first
       | (go_at_call 72;refine(Δ g _ 120 _ (by repeat first | with_reducible exact HR1.o | with_reducible apply Rd.drew) (by omega)).mono ?_;rintro e9 w9 ⟨q9,rfl,i9_,o9_,r9_⟩;(have hz9:=o9_.size);(have ka9:=zcc (KA.o.drew) o9_ (.inr (by omega)));(have p9:=ka9.cell 4);(have f9:=ka9.free 4);(have K9:=H_ ka9);(have R9:=H_ r9_);(have O9:=H_ o9_.undrew);clear ka9 r9_ o9_ i9_))
      all_goals (
       go_wp2_with fail
       go_meet
       exact⟨_,H_ ⟨K9.o.put4 _,(HO1.o.trans O9.o).fresh (β.pute _ _ _ _) (by omega),(R9.o.outside (β.pute _ _ _ _) (by omega)).mono (by omega),(KR.o.outside O9.o (.inr (by omega))).outside (β.pute _ _ _ _) (by omega)⟩⟩)
     case rest=>
      (obtain⟨k8,H8⟩:=hcut;obtain⟨w9,rfl⟩:=ex_ wc;obtain⟨ka_,o_,r_,kr_⟩:=H8.o;clear H8 KA KR;have KA:=H_ ka_;have KR:=H_ kr_;replace HO1:=H_ o_;replace HR1:=H_ r_;have hz_9:=o_.size;clear ka_ o_ r_ kr_ p4 p5 pd4 pd5;have⟨q0,q1,q2,q3,q4⟩:=KA.o.c5;have⟨r0,r1,r2,r3,r4⟩:=KR.o.c5;have⟨s0,s1,s2,s3,s4⟩:=KR.o.f5;have⟨wz,hwz⟩:=x5_ w9 (w+1) (.int .i64 (1)) (.int .i64 (0)) (.bool false) (.int .i64 (0)) (.int .i64 (k8));have KZ:=KR.o.set5 (.int .i64 (1)) (.int .i64 (0)) (.bool false) (.int .i64 (0)) (.int .i64 (k8));have OZ:=β.set5 (w+1) w9 (.int .i64 (1)) (.int .i64 (0)) (.bool false) (.int .i64 (0)) (.int .i64 (k8));rw[<-hwz]at KZ OZ;obtain⟨z0,z1,z2,z3,z4⟩:=KZ.c5;have HE:=H_ (a_ (HO1.o.fresh OZ (by omega)) ((HR1.o.outside OZ (by omega)).mono (show _<=c+120 by omega)));clear KZ OZ;go_wp2_with fail);simp only[<-hwz];clear hwz;refine d_ (v:=.agg #[.int .i64 (1),.int .i64 (0),.bool false,.int .i64 (0),.int .i64 (k8)]) (by simp[results,results81,go_sem,z0,z1,z2,z3,z4]) rfl ⟨⟨1,⟨0,false,0⟩,k8⟩,rfl,HE.o⟩
   ·(have e0:(k==0)=false:=by simpa using k0);(have e1:(k==1)=false:=by simpa using k1);(have k0_:=KA.o.cell 0;go_wp2_with fail);refine(zf7 g _ 40 _ HR1.o (by omega) (by omega)).mono ?_;rintro e w8 ⟨b_,rfl,ho_,hr_⟩;replace KA:=H_ (KA.o.outside ho_ (.inr (by omega)));replace KR:=H_ (KR.o.outside ho_ (.inr (by omega)));replace HO1:=H_ (HO1.o.trans ho_);replace HR1:=H_ hr_;have hz_w8:=ho_.size;clear ho_ hr_;cases b_
    ·(have⟨q0,q1,q2,q3,q4⟩:=KA.o.c5);(have⟨r0,r1,r2,r3,r4⟩:=KR.o.c5;have⟨s0,s1,s2,s3,s4⟩:=KR.o.f5;have⟨wz,hwz⟩:=x5_ w8 (w+1) (.int .i64 (k)) (.int .i64 (0)) (.bool false) (.int .i64 (0)) (.int .i64 (0));have KZ:=KR.o.set5 (.int .i64 (k)) (.int .i64 (0)) (.bool false) (.int .i64 (0)) (.int .i64 (0));have OZ:=β.set5 (w+1) w8 (.int .i64 (k)) (.int .i64 (0)) (.bool false) (.int .i64 (0)) (.int .i64 (0));rw[<-hwz]at KZ OZ;obtain⟨z0,z1,z2,z3,z4⟩:=KZ.c5;have HE:=H_ (a_ (HO1.o.fresh OZ (by omega)) ((HR1.o.outside OZ (by omega)).mono (show _<=c+120 by omega)));clear KZ OZ;go_wp2_with fail);simp only[<-hwz];clear hwz;refine d_ (v:=.agg #[.int .i64 (k),.int .i64 (0),.bool false,.int .i64 (0),.int .i64 (0)]) (by simp[results,results81,go_sem,z0,z1,z2,z3,z4]) rfl ⟨⟨k,⟨0,false,0⟩,0⟩,rfl,HE.o⟩
    ·(have p4:=KA.o.cell 4);(have p5:=KA.o.free 4;have pd4:=(KA.o.drew).cell 4;have pd5:=(KA.o.drew).free 4;go_upto_region 8 with fail);go_cut [] (λwx=>∃ k8:Int,Q_ (Blk gA (.cells #[.int .i64 (k),.int .i64 (0),.bool false,.int .i64 (0),.int .i64 k8] 69) wx/\β g (g+1) w wx/\Rd g wx (c+110)/\Blk (w+1) (.cells #[(0:Int),(0:Int),.bool false,(0:Int),(0:Int)] 69) wx))
     case first=>
      go_region_with (first
       | (go_at_call 72;refine(Δ g _ 120 _ (by repeat first | with_reducible exact HR1.o | with_reducible apply Rd.drew) (by omega)).mono ?_;rintro e9 w9 ⟨q9,rfl,i9_,o9_,r9_⟩;(have hz9:=o9_.size);(have ka9:=zcc (KA.o.drew) o9_ (.inr (by omega)));(have p9:=ka9.cell 4);(have f9:=ka9.free 4);(have K9:=H_ ka9);(have R9:=H_ r9_);(have O9:=H_ o9_.undrew);clear ka9 r9_ o9_ i9_))
      all_goals (
       go_wp2_with fail
       go_meet
       exact⟨_,H_ ⟨K9.o.put4 _,(HO1.o.trans O9.o).fresh (β.pute _ _ _ _) (by omega),(R9.o.outside (β.pute _ _ _ _) (by omega)).mono (by omega),(KR.o.outside O9.o (.inr (by omega))).outside (β.pute _ _ _ _) (by omega)⟩⟩)
     case rest=>
      (obtain⟨k8,H8⟩:=hcut;obtain⟨w9,rfl⟩:=ex_ wc;obtain⟨ka_,o_,r_,kr_⟩:=H8.o;clear H8 KA KR;have KA:=H_ ka_;have KR:=H_ kr_;replace HO1:=H_ o_;replace HR1:=H_ r_;have hz_9:=o_.size;clear ka_ o_ r_ kr_ p4 p5 pd4 pd5;have⟨q0,q1,q2,q3,q4⟩:=KA.o.c5;have⟨r0,r1,r2,r3,r4⟩:=KR.o.c5;have⟨s0,s1,s2,s3,s4⟩:=KR.o.f5;have⟨wz,hwz⟩:=x5_ w9 (w+1) (.int .i64 (k)) (.int .i64 (0)) (.bool false) (.int .i64 (0)) (.int .i64 (k8));have KZ:=KR.o.set5 (.int .i64 (k)) (.int .i64 (0)) (.bool false) (.int .i64 (0)) (.int .i64 (k8));have OZ:=β.set5 (w+1) w9 (.int .i64 (k)) (.int .i64 (0)) (.bool false) (.int .i64 (0)) (.int .i64 (k8));rw[<-hwz]at KZ OZ;obtain⟨z0,z1,z2,z3,z4⟩:=KZ.c5;have HE:=H_ (a_ (HO1.o.fresh OZ (by omega)) ((HR1.o.outside OZ (by omega)).mono (show _<=c+120 by omega)));clear KZ OZ;go_wp2_with fail);simp only[<-hwz];clear hwz;refine d_ (v:=.agg #[.int .i64 (k),.int .i64 (0),.bool false,.int .i64 (0),.int .i64 (k8)]) (by simp[results,results81,go_sem,z0,z1,z2,z3,z4]) rfl ⟨⟨k,⟨0,false,0⟩,k8⟩,rfl,HE.o⟩
def zdb(P:Value->Value->Value->Value->World->Prop)(e:Ending)(w':World):Prop:=∃ a b c d,e=.returned (ο a b c d)/\P a b c d w'
theorem zdb.mk {P:Value->Value->Value->Value->World->Prop} {e:Ending}(a b c d:Value)(h:e=.returned (ο a b c d))(hp:P a b c d w'):zdb P e w':=⟨a,b,c,d,h,hp⟩
def Dsk.none:Dsk:=⟨[],[],[],[]⟩
def zbv(xs ys:List Int):Dsk:=if ν xs&&ν ys then ⟨xs,ys,[],xs⟩ else Dsk.none
abbrev zjg(w:World)(D:Dsk):Ending->World->Prop:=zdb λa b c d w'=>Κ w w' w' a b c d D/\Below w w w'
theorem Κ.nils(lo hi:Nat)(h:lo<=hi)(w:World):Κ lo hi w () () () () Dsk.none:=
 ⟨lo,lo,lo,lo,lo,lo,lo,lo,Ω _ _ _ _ _,Ω _ _ _ _ _,Ω _ _ _ _ _,Ω _ _ _ _ _,by omega,by omega,by omega,by omega,by omega,by omega,by omega,by omega,by omega,by omega⟩
theorem zky(lo hi lo' hi':Nat)(v v':Value)(xs ys:List Int)(w:World)(hx:SlI lo hi w v xs)(hy:SlI lo' hi' w v' ys)(hh:hi<=w)(hh':hi'<=w)(hm:xs.length<=1048576)(hm':ys.length<=1048576):
  Calls prog 74 #[v,v'] w (zjg w (zbv xs ys)):=by
 have⟨w0,hw0⟩:=xa_ w #[(),(),(),()] 31;have HB:Q_ (Below w w w0):=by rw[hw0];exact H_ ((B_ _ _).alloc (le_ _) _)
 have K1:Q_ (Blk w (.cells #[(),(),(),()] 31) w0):=by rw[hw0];exact H_ (κ w _)
 have hsz:w0=w.heap.size+1:=by rw[hw0];simp
 have⟨hz1,hz2⟩:w+1<=w0.heap.size/\w0<=w.heap.size+1:=by omega
 have HX:=H_ (hx.below HB.o hh);have HY:=H_ (hy.below HB.o hh');clear hx hy hsz;have HD:=H_ (show zbv xs ys=if ν xs&&ν ys then ⟨xs,ys,[],xs⟩ else Dsk.none from rfl);cases hv:ν xs
 ·go_enter func74,ntmps74
  go_wp2_with fail
  simp only[<-hw0];clear hw0;refine(zag _ _ _ xs _ HX.o hm).mono ?_;rintro e w1 ⟨rfl,rfl⟩;have⟨c0,c1,c2,c3⟩:=K1.o.c4;have⟨f0,f1,f2,f3⟩:=K1.o.f4;have⟨wz,hwz⟩:=x4_ w0 w () () () ();have KZ:=K1.o.set4 () () () ();have HO:=β.set4 w w0 () () () ();rw[<-hwz]at KZ HO;have hsz:=HO.size;replace HB:=H_ (ε HB.o HO (le_ _) HB.o.size);have HOZ:=H_ HO;obtain⟨q0,q1,q2,q3⟩:=KZ.c4;clear KZ HO;go_wp2;simp only[<-hwz];clear hwz c0 c1 c2 c3 f0 f1 f2 f3;refine d_ (v:=ο () () () ()) (by simp[results,results74,go_sem,q0,q1,q2,q3]) rfl (zdb.mk _ _ _ _ rfl ⟨?_,HB.o⟩);rw[HD.o,hv];exact Κ.nils _ _ HB.o.size _
 ·go_enter func74,ntmps74
  go_wp2_with fail
  simp only[<-hw0];clear hw0;refine(zag _ _ _ xs _ HX.o hm).mono ?_;rintro e w1 ⟨rfl,rfl⟩;cases hv':ν ys
  ·go_wp2_with fail
   refine(zag _ _ _ ys _ HY.o hm').mono ?_;rintro e w1 ⟨rfl,rfl⟩;have⟨c0,c1,c2,c3⟩:=K1.o.c4;have⟨f0,f1,f2,f3⟩:=K1.o.f4;have⟨wz,hwz⟩:=x4_ w0 w () () () ();have KZ:=K1.o.set4 () () () ();have HO:=β.set4 w w0 () () () ();rw[<-hwz]at KZ HO;have hsz:=HO.size;replace HB:=H_ (ε HB.o HO (le_ _) HB.o.size);have HOZ:=H_ HO;obtain⟨q0,q1,q2,q3⟩:=KZ.c4;clear KZ HO;go_wp2;simp only[<-hwz];clear hwz c0 c1 c2 c3 f0 f1 f2 f3;refine d_ (v:=ο () () () ()) (by simp[results,results74,go_sem,q0,q1,q2,q3]) rfl (zdb.mk _ _ _ _ rfl ⟨?_,HB.o⟩);rw[HD.o,hv,hv'];exact Κ.nils _ _ HB.o.size _
  ·go_wp2_with fail
   refine(zag _ _ _ ys _ HY.o hm').mono ?_;rintro e w1 ⟨rfl,rfl⟩;have OE:=H_ (ς 1 3 w0 [] 0 (by omega) rfl);have hbe:Below w0 w0 (w0.alloc (.cells ([]:List Value).toArray 3)):=(B_ _ _).alloc (le_ _) _;go_wp2_with (at_builtin;refine Μ rfl _ _ 22 rfl 3 (0:Int) 1 8 underlying22 ω rfl (by decide) (by decide) rfl OE.o rfl (HX.o.below hbe (by omega)) (Ι _) ?c1 ?c2 ?_)
   case c1=>omega
   case c2=>simp
   intro v2 w2 ob _ ho _;have hsA:w0<=w2.heap.size:=by have:=ho.size;simp at this;omega
   have hb:Below w0 w0 w2:=ε hbe ho (le_ _) (by simp);have OA:=H_ (show γ w0 w2 3 w2 v2 xs from ob);obtain⟨aa,ca,rfl⟩:=η OA.o;replace HB:=HB.ts hb;replace K1:=H_ (K1.o.below hb (by omega));replace HX:=H_ (HX.o.below hb (by omega));replace HY:=H_ (HY.o.below hb (by omega));clear hb ob ho hbe OE;have OE:=H_ (ς 1 3 w2 [] 0 (by omega) rfl);have hbe:Below w2 w2 (w2.alloc (.cells ([]:List Value).toArray 3)):=(B_ _ _).alloc (le_ _) _;go_wp2_with (at_builtin;refine Μ rfl _ _ 22 rfl 3 (0:Int) 1 8 underlying22 ω rfl (by decide) (by decide) rfl OE.o rfl (HY.o.below hbe (by omega)) (Ι _) ?c1 ?c2 ?_)
   case c1=>omega
   case c2=>simp
   intro v2 w3 ob _ ho _;have hsB:w2<=w3.heap.size:=by have:=ho.size;simp at this;omega
   have hb:Below w2 w2 w3:=ε hbe ho (le_ _) (by simp);have OB:=H_ (show γ w2 w3 3 w3 v2 ys from ob);obtain⟨ab,cb,rfl⟩:=η OB.o;replace HB:=HB.ts hb;replace K1:=H_ (K1.o.below hb (by omega));replace HX:=H_ (HX.o.below hb (by omega));replace HY:=H_ (HY.o.below hb (by omega));replace OA:=H_ (OA.o.below hb (by omega));clear hb ob ho hbe OE;have⟨w4,hw4⟩:=xa_ w3 #[] 67;have hb:Below w3 w3 w4:=by rw[hw4];exact(B_ _ _).alloc (le_ _) _
   have hs4:w3+1<=w4.heap.size:=by rw[hw4];simp
   have OC:Q_ (Ξ w3 (w3+1) 67 w4 (.slice (q_ w3 0) 0 0) []):=by rw[hw4];exact H_ (ς 3 67 w3 [] 0 (by omega) rfl)
   replace HB:=HB.ts hb;replace HX:=H_ (HX.o.below hb (by omega));replace HY:=H_ (HY.o.below hb (by omega));replace OA:=H_ (OA.o.below hb (by omega));replace OB:=H_ (OB.o.below hb (by omega));replace K1:=K1.kb hb;clear hb
   have OE:Q_ (Own 1 (w3+1) (w3+2) 3 ((w3.alloc (.cells #[] 67)).alloc (.cells #[] 3)) (.slice (q_ (w3+1) 0) 0 0) 0 []):=by
    have h:=ς 1 3 (w3.alloc (.cells #[] 67)) [] 0 (by omega) rfl;rw[μ]at h;exact H_ h
   have hbe:Below w4 w4 ((w3.alloc (.cells #[] 67)).alloc (.cells #[] 3)):=by rw[hw4];exact(B_ _ _).alloc (le_ _) _
   have hs4':w4=w3.heap.size+1:=by rw[hw4];simp
   have HS4:=H_ hs4';have HXE:=H_ (HX.o.below hbe (by omega));have HBE:=H_ hbe;clear hw4 hs4' hbe;go_wp2_with (at_builtin;refine Μ rfl _ _ 22 rfl 3 (0:Int) 1 8 underlying22 ω rfl (by decide) (by decide) rfl OE.o rfl HXE.o (Ι _) ?c1 ?c2 ?_)
   case c1=>omega
   case c2=>simp
   intro v2 w5 ob _ ho _;have hs4':=HS4.o;have hsD:w4<=w5.heap.size:=by have:=ho.size;simp at this;omega
   have hb:Below w4 w4 w5:=ε HBE.o ho (by omega) (by simp;omega);have OD:=H_ (show γ (w3+1) w5 3 w5 v2 xs from ob);obtain⟨ad,cd,rfl⟩:=η OD.o;replace HB:=HB.ts hb;replace K1:=H_ (K1.o.below hb (by omega));replace OA:=H_ (OA.o.below hb (by omega));replace OB:=H_ (OB.o.below hb (by omega));replace OC:=H_ (OC.o.below hb (by omega));clear hb ob ho HBE HXE OE hs4';have⟨c0,c1,c2,c3⟩:=K1.o.c4;have⟨f0,f1,f2,f3⟩:=K1.o.f4;have⟨wz,hwz⟩:=x4_ w5 w (.slice aa xs ca) (.slice ab ys cb) (.slice (q_ w3 0) 0 0) (.slice ad xs cd);have KZ:=K1.o.set4 (.slice aa xs ca) (.slice ab ys cb) (.slice (q_ w3 0) 0 0) (.slice ad xs cd);have HO:=β.set4 w w5 (.slice aa xs ca) (.slice ab ys cb) (.slice (q_ w3 0) 0 0) (.slice ad xs cd);rw[<-hwz]at KZ HO;have hsz:=HO.size;replace HB:=H_ (ε HB.o HO (le_ _) HB.o.size);have HOZ:=H_ HO;obtain⟨q0,q1,q2,q3⟩:=KZ.c4;clear KZ HO;go_wp2;simp only[<-hwz];clear hwz c0 c1 c2 c3 f0 f1 f2 f3;refine d_ (v:=ο (.slice aa xs ca) (.slice ab ys cb) (.slice (q_ w3 0) 0 0) (.slice ad xs cd)) (by simp[results,results74,go_sem,q0,q1,q2,q3]) rfl (zdb.mk _ _ _ _ rfl ⟨?_,HB.o⟩);rw[HD.o,hv,hv'];exact⟨_,_,_,_,_,_,_,_,OA.o.outside HOZ.o (.inr (by omega)),OB.o.outside HOZ.o (.inr (by omega)),OC.o.outside HOZ.o (.inr (by omega)),OD.o.outside HOZ.o (.inr (by omega)),by omega,by omega,by omega,by omega,by omega,by omega,by omega,by omega,by omega,by omega⟩
def φ(D:Dsk):Bool:=match υ D.first D.made with | some x=>ν D.goal&&eqL x D.now | none=>false
theorem zhl(lo hi:Nat)(a b c d:Value)(D:Dsk)(w:World)(hE:zax w)(hx:Θ lo hi w a b c d D)(hh:hi<=w)(hm:D.size<=1048576):
  c_ 27 #[ο a b c d] w (.bool (φ D)):=by
 unfold Dsk.size at hm;have⟨w0,hw0⟩:=xa_ w #[a,b,c,d] 31;have HB:Q_ (Below w w w0):=by rw[hw0];exact H_ ((B_ _ _).alloc (le_ _) _)
 have K:Q_ (Blk w (.cells #[a,b,c,d] 31) w0):=by rw[hw0];exact H_ (κ w _)
 have HX:=H_ (hx.below HB.o hh);have hsz:w+1<=w0.heap.size:=by rw[hw0];simp
 have HW0:=H_ hw0;have HE:=H_ hE;have k0:=K.o.cell 0;have k2:=K.o.cell 2;clear hx hE hw0
 go_enter func27,ntmps27
 go_wp2_with (rw[<-HW0.o])
 refine(znn _ _ _ _ _ _ D.first D.made _ (HE.o.below HB.o) HX.o.first (by omega) HX.o.made (by omega)).mono ?_;rintro e w1 ⟨v1,_,rfl,hb,rfl,ho⟩;replace K:=H_ (K.o.below hb (by omega));replace HX:=H_ (HX.o.below hb (by omega));have hs1:=hb.size;replace HB:=HB.tr hb (by omega);clear hb k0 k2;have k1:=K.o.cell 1;have k3:=K.o.cell 3;cases hp:υ D.first D.made with
 | none=>
  have HR:Q_ (φ D=false):=H_ (by simp[φ,hp]);rw[hp]at ho;obtain⟨a1,c1,rfl,_⟩:=θ ho;clear hp ho;simp only[a8_];go_wp2;go_ret;exact⟨by rw[HR.o];rfl,HB.o⟩
 | some x=>
  rw[hp]at ho;have HO:=H_ ho;obtain⟨a1,c1,rfl,_⟩:=θ ho;have hx40:=(zcb (zh2 hp)).2;have HR:Q_ (φ D=(ν D.goal&&eqL x D.now)):=H_ (by simp[φ,hp]);clear hp ho;simp only[a0_,ac_];go_wp2_with fail
  refine(zc3 _ _ _ D.goal _ HX.o.goal (by omega)).mono ?_;rintro e w2 ⟨rfl,rfl⟩;cases hk:ν D.goal
  ·rw[hk]at HR
   clear hk;go_wp2;go_ret;exact⟨by rw[HR.o];rfl,HB.o⟩
  ·rw[hk]at HR
   clear hk;go_wp2_with fail
   refine(zge _ _ _ _ _ _ x D.now _ HO.o.sl HX.o.now).mono ?_;rintro e w3 ⟨rfl,hb⟩;replace HB:=HB.ts hb;clear hb;go_wp2;go_ret;exact⟨by rw[HR.o];rfl,HB.o⟩
theorem zfq(lo hi:Nat)(a b c d:Value)(D:Dsk)(w:World)(hx:Θ lo hi w a b c d D)(hh:hi<=w)(hm:D.size<=1048576):
  c_ 23 #[ο a b c d] w (.bool (φ D)):=by
 unfold Dsk.size at hm;have⟨w0,hw0⟩:=xa_ w #[a,b,c,d] 31;have HB:Q_ (Below w w w0):=by rw[hw0];exact H_ ((B_ _ _).alloc (le_ _) _)
 have K:Q_ (Blk w (.cells #[a,b,c,d] 31) w0):=by rw[hw0];exact H_ (κ w _)
 have HX:=H_ (hx.below HB.o hh);have hsz:w+1<=w0.heap.size:=by rw[hw0];simp
 have HW0:=H_ hw0;clear hw0;have k0:=K.o.cell 0;have k2:=K.o.cell 2;clear hx
 go_enter func23,ntmps23
 go_wp2_with (rw[<-HW0.o])
 refine(zma _ _ _ _ _ _ D.first D.made _ HX.o.first (by omega) HX.o.made (by omega)).mono ?_;rintro e w1 ⟨v1,_,rfl,hb,rfl,ho⟩;replace K:=H_ (K.o.below hb (by omega));replace HX:=H_ (HX.o.below hb (by omega));have hs1:=hb.size;replace HB:=HB.tr hb (by omega);clear hb k0 k2;have k1:=K.o.cell 1;have k3:=K.o.cell 3;cases hp:υ D.first D.made with
 | none=>
  have HR:Q_ (φ D=false):=H_ (by simp[φ,hp]);rw[hp]at ho;obtain⟨a1,c1,rfl,_⟩:=θ ho;clear hp ho;simp only[a8_];go_wp2;go_ret;exact⟨by rw[HR.o];rfl,HB.o⟩
 | some x=>
  rw[hp]at ho;have HO:=H_ ho;obtain⟨a1,c1,rfl,_⟩:=θ ho;have hx40:=(zcb (zh2 hp)).2;have HR:Q_ (φ D=(ν D.goal&&eqL x D.now)):=H_ (by simp[φ,hp]);clear hp ho;simp only[a0_,ac_];go_wp2_with fail
  refine(zag _ _ _ D.goal _ HX.o.goal (by omega)).mono ?_;rintro e w2 ⟨rfl,rfl⟩;cases hk:ν D.goal
  ·rw[hk]at HR
   clear hk;go_wp2;go_ret;exact⟨by rw[HR.o];rfl,HB.o⟩
  ·rw[hk]at HR
   clear hk;go_wp2_with fail
   refine(zje _ _ _ _ _ _ x D.now _ HO.o.sl HX.o.now (by omega) (by omega)).mono ?_;rintro e w3 ⟨rfl,hb⟩;replace HB:=HB.ts hb;clear hb;go_wp2;go_ret;exact⟨by rw[HR.o];rfl,HB.o⟩
theorem zuu(lo hi:Nat)(a b c d:Value)(D:Dsk)(w:World)(hE:zax w)(hx:Θ lo hi w a b c d D)(hh:hi<=w)(hm:D.size<=1048576):
  c_ 89 #[ο a b c d] w (.bool (φ D&&eqL D.now D.goal)):=by
 have hmm:=hm;unfold Dsk.size at hm;have⟨w0,hw0⟩:=xa_ w #[a,b,c,d] 31;have HB:Q_ (Below w w w0):=by rw[hw0];exact H_ ((B_ _ _).alloc (le_ _) _)
 have K:Q_ (Blk w (.cells #[a,b,c,d] 31) w0):=by rw[hw0];exact H_ (κ w _)
 have HX:=H_ (hx.below HB.o hh);have hsz:w+1<=w0.heap.size:=by rw[hw0];simp
 have HW0:=H_ hw0;have HE:=H_ hE;have⟨k0,k1,k2,k3⟩:=K.o.c4;clear hx hE hw0
 go_enter func89,ntmps89
 go_wp2_with (rw[<-HW0.o])
 refine(zhl _ _ a b c d D _ (HE.o.below HB.o) HX.o (by omega) hmm).mono ?_;rintro e w1 ⟨rfl,hb⟩;replace K:=H_ (K.o.below hb (by omega));replace HX:=H_ (HX.o.below hb (by omega));have hs1:=hb.size;replace HB:=HB.tr hb (by omega);clear hb k0 k1 k2 k3;have k1:=K.o.cell 1;have k3:=K.o.cell 3;cases hv:φ D
 ·have HV:=H_ hv
  clear hv;go_wp2;go_ret;exact⟨by rw[HV.o];rfl,HB.o⟩
 ·have HV:=H_ hv
  clear hv;go_wp2_with fail
  refine(zge _ _ _ _ _ _ D.now D.goal _ HX.o.now HX.o.goal).mono ?_;rintro e w3 ⟨rfl,hb⟩;replace HB:=HB.ts hb;clear hb;go_wp2;go_ret;exact⟨by rw[HV.o];rfl,HB.o⟩
theorem zv3(lo hi:Nat)(a b c d:Value)(D:Dsk)(w:World)(hx:Θ lo hi w a b c d D)(hh:hi<=w)(hm:D.size<=1048576):
  c_ 55 #[ο a b c d] w (.bool (φ D&&eqL D.now D.goal)):=by
 have hmm:=hm;unfold Dsk.size at hm;have⟨w0,hw0⟩:=xa_ w #[a,b,c,d] 31;have HB:Q_ (Below w w w0):=by rw[hw0];exact H_ ((B_ _ _).alloc (le_ _) _)
 have K:Q_ (Blk w (.cells #[a,b,c,d] 31) w0):=by rw[hw0];exact H_ (κ w _)
 have HX:=H_ (hx.below HB.o hh);have hsz:w+1<=w0.heap.size:=by rw[hw0];simp
 have HW0:=H_ hw0;clear hw0;have⟨k0,k1,k2,k3⟩:=K.o.c4;clear hx
 go_enter func55,ntmps55
 go_wp2_with (rw[<-HW0.o])
 refine(zfq _ _ a b c d D _ HX.o (by omega) hmm).mono ?_;rintro e w1 ⟨rfl,hb⟩;replace K:=H_ (K.o.below hb (by omega));replace HX:=H_ (HX.o.below hb (by omega));have hs1:=hb.size;replace HB:=HB.tr hb (by omega);clear hb k0 k1 k2 k3;have k1:=K.o.cell 1;have k3:=K.o.cell 3;cases hv:φ D
 ·have HV:=H_ hv
  clear hv;go_wp2;go_ret;exact⟨by rw[HV.o];rfl,HB.o⟩
 ·have HV:=H_ hv
  clear hv;go_wp2_with fail
  refine(zje _ _ _ _ _ _ D.now D.goal _ HX.o.now HX.o.goal (by omega) (by omega)).mono ?_;rintro e w3 ⟨rfl,hb⟩;replace HB:=HB.ts hb;clear hb;go_wp2;go_ret;exact⟨by rw[HV.o];rfl,HB.o⟩
theorem Θ.shapes {a b c d:Value} {D:Dsk}(h:Θ lo hi w a b c d D):
  ∃ a1 a2 b1 b2 c1 c2 d1 d2,a=.slice a1 D.first a2/\b=.slice b1 D.goal b2/\c=.slice c1 D.made c2/\d=.slice d1 D.now d2/\D.first.length<=9223372036854775807/\D.goal.length<=9223372036854775807/\D.made.length<=9223372036854775807/\D.now.length<=9223372036854775807:=by
 obtain⟨a1,a2,ha,ha1,ha2⟩:=π h.first;obtain⟨b1,b2,hb,hb1,hb2⟩:=π h.goal;obtain⟨c1,c2,hc,hc1,hc2⟩:=h.made.shape;obtain⟨d1,d2,hd,hd1,hd2⟩:=π h.now;unfold maxLen at ha2 hb2 hc2 hd2;exact⟨a1,a2,b1,b2,c1,c2,d1,d2,ha,hb,hc,hd,by omega,by omega,by omega,by omega⟩
def acs(l:List Ac):List Value:=l.flatMap encAc
def SlA(lo hi:Nat)(w:World)(v:Value)(l:List Ac):Prop:=Sl 5 lo hi w v l.length (acs l)
def OwnA(lo hi e:Nat)(w:World)(v:Value)(l:List Ac):Prop:=Own 5 lo hi e w v l.length (acs l)
theorem OwnA.below {e:Nat} {xs:List Ac}(h:OwnA lo hi e w v xs)(hb:Below B w w')(hB:hi<=B):OwnA lo hi e w' v xs:=zfw h hb hB
theorem SlA.below {xs:List Ac}(h:SlA lo hi w v xs)(hb:Below B w w')(hB:hi<=B):SlA lo hi w' v xs:=zch h hb hB
theorem SlA.outside {xs:List Ac}(h:SlA lo hi w v xs)(hb:β lo' hi' w w')(hd:hi<=lo'\/hi'<=lo):SlA lo hi w' v xs:=zhc h hb hd
theorem SlA.wide {xs:List Ac}(h:SlA lo hi w v xs)(h1:lo'<=lo)(h2:hi<=hi'):SlA lo' hi' w v xs:=zg6 h h1 h2
end Go.Proofs.YtfnnhimopokpnaaGreatDoor
