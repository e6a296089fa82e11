/- VideoJoins -/
import Derived.Test.YthbajahklnpkcaaCVideoJoins5
import Derived.Test.YthbajahklnpkcaaRows
import Derived.WalkKit
import Derived.ProofKit
import Derived.OpenShut
import Derived.ShutString
import Derived.ChangeOld
import Derived.Below
import Derived.SizedLaws
import Derived.Lib.SmallJoins
import Derived.ChangeSlices
namespace Go.Proofs.Ythbajahklnpkcaa.PA
open Go.RowKit Go.Proofs.YthbajahklnpkcaaW.PrintWords Go.Proofs.YthbajahklnpkcaaW.PrintLast Go.Proofs.YthbajahklnpkcaaW.PrintMore
attribute [local go_sem] ZN ZO ZZ Xb ZI ZJ ZQ ZP
set_option linter.unusedVariables false
set_option linter.unusedSimpArgs false
def Z4.l0 : Nat → Int → List (S43) → Int → Int → Option (Int × Int)
 | 0,_,_,_,_ => none
 | k + 1,x4,x10,x11,x12 => if x12 < x11 then (if 0 ≤ x12 then (if x12 < (x10.length : Int) then (Z4.l0 k (wrap64 (x4 + (wrap64 (((Zg x10 x12).f2) * ((Zg x10 x12).f3))))) x10 x11 (wrap64 (x12 + 1))) else (none)) else (none)) else (some (x4,0))
def Z4.f (k : Nat) (l0 : List (S43)) : Option (Int × Int) := (Xv.f l0).bind fun t383 => (if t383 = true then (Z4.l0 k 0 l0 (l0.length : Int) 0) else (some (0,1)))
theorem Z4.Xo : ∀ k,(∀ y0 y1 y2 y3,LeO (Z4.l0 k y0 y1 y2 y3) (Z4.l0 (k + 1) y0 y1 y2 y3))
 | 0 => fun _ _ _ _ r h => by simp [Z4.l0] at h
 | k + 1 => by
  have ih0 := Z4.Xo k
  · intro y0 y1 y2 y3
    unfold Z4.l0
    repeat' first
    | (with_reducible exact ih0 _ _ _ _)
    | (with_reducible exact LeO.refl _)
    | (with_reducible exact LeO.none _)
    | (with_reducible refine LeO.ite ?_ ?_)
    | (with_reducible refine LeO.bind ?_ (fun _ => ?_))
    | exact ih0 _ _ _ _
    | exact LeO.none _
    | refine LeO.ite ?_ ?_
    | refine LeO.bind ?_ (fun _ => ?_)
theorem Z4.mono : ∀ a0 k,LeO (Z4.f k a0) (Z4.f (k + 1) a0) := by
 intro a0 k;have ih0 := Z4.Xo k;unfold Z4.f
 repeat' first
  | (with_reducible exact ih0 _ _ _ _)
  | (with_reducible exact LeO.refl _)
  | (with_reducible exact LeO.none _)
  | (with_reducible refine LeO.ite ?_ ?_)
  | (with_reducible refine LeO.bind ?_ (fun _ => ?_))
  | exact ih0 _ _ _ _
  | exact LeO.none _
  | refine LeO.ite ?_ ?_
  | refine LeO.bind ?_ (fun _ => ?_)
set_option maxHeartbeats 8000000 in
set_option maxRecDepth 100000 in
theorem Z4.calls (k : Nat) (A0 : Option Addr) (c0 : Nat) (l0 : List (S43)) (r1 : Int) (r2 : Int) (w : World) (hr0 : Kd.C k43 w A0 l0.length l0) (hc0 : l0.length ≤ c0) (h : Z4.f k l0 = some (r1,r2)) :
 Calls Try.prog 17 #[.slice A0 l0.length c0] w fun e w' => e = .returned (.tuple #[.int .i64 r1,.int .i64 r2]) ∧ Below w.heap.size w w' := by
 have hu43 := Try.underlying43;have HR0 := Zc.mk hr0;have HC0 := Zc.mk hc0;clear hr0 hc0;have HB := Zc.mk (Below.refl w.heap.size w);have H : ((Xv.f l0).bind fun t383 => (if t383 = true then (Z4.l0 k 0 l0 (l0.length : Int) 0) else (some (0,1)))) = some (r1,r2) := h;clear h;replace H := Option.bind_eq_some_iff.mp H;obtain ⟨t383,A20,H⟩ := H;replace H : (if t383 = true then (Z4.l0 k 0 l0 (l0.length : Int) 0) else (some (0,1))) = some (r1,r2) := H;have A2 := Zc.mk A20;clear A20
 by_cases c3 : t383 = true
 · subst c3
   have H1 : (Z4.l0 k 0 l0 (l0.length : Int) 0) = some (r1,r2) := by rw [if_pos rfl] at H;exact H
   clear H;have H := H1;clear H1;have H' := Zc.mk H;clear H
   go_enter Try.func17,Try.ntmps17
   go_wp2_with (first | ((with_reducible refine Zx (f := 22) rfl ?_);refine ZD (some 8) rfl rfl Try.func22 (by kernel_rfl) rfl #[.slice A0 l0.length c0] rfl (by (try simp only [List.map_toArray,List.map_cons,List.map_nil]);first | done | rfl | (simp only [List.length_drop,List.length_take];rfl)) ?_;(with_reducible refine (Xv.calls _ _ l0 true _ ?side1 ?side2 A2.out).mono ?_);(case side1 => repeat (first | exact HR0.out | (with_reducible refine Kd.Z2 ?_ _) | (with_reducible refine Kd.Z3 ?_ _) | (with_reducible refine Kd.Z8 ?_)));(case side2 => exact HC0.out);rintro e w4 ⟨rfl,hb⟩;refine ⟨_,rfl,?_⟩;have n0_ := Zc.mk (Zt (by repeat (first | (with_reducible first | exact HB.out | apply Zf | apply Za | apply Zd) | exact HB.out)) hb);clear HB;have HB := n0_;clear n0_;(try clear hb);(try clear hb2);(try clear hk);(try clear hi)))
   go_loopg [4,12] k (fun kq v4 v12 w' => ∃ (x4_1 : Int) (x12_1 : Int),v4 = .int .i64 x4_1 ∧ v12 = .int .i64 x12_1 ∧ Zc (Z4.l0 kq x4_1 l0 (l0.length : Int) x12_1 = some (r1,r2)) ∧ Zc (kq ≤ k) ∧ Zc (Below w.heap.size w w'))
   case atStart => exact ⟨(0),(0),(by first | rfl | (simp;done) | (simp [*];done)),(by first | rfl | (simp;done) | (simp [*];done)),H',⟨Nat.le_refl _⟩,⟨by repeat (first | (with_reducible first | exact HB.out | apply Zf | apply Za | apply Zd) | exact HB.out)⟩⟩
   case round =>
    clear H'
    (try clear c1); (try clear c2); (try clear p2); (try clear c3)
    obtain ⟨x4_1,x12_1,rfl,rfl,HA,HK1,HB⟩ := hrel
    cases gk with
    | zero => exact absurd HA.out (by simp [Z4.l0])
    | succ k1 =>
     have H := HA.out;clear HA;simp only [Z4.l0] at H
     by_cases c5 : x12_1 < (l0.length : Int)
     · rw [if_pos c5] at H
       have c5b0 : decide (x12_1 < (l0.length : Int)) = true := decide_eq_true c5;clear c5
       by_cases c6 : 0 ≤ x12_1
       · rw [if_pos c6] at H
         have c6b0 : decide (0 ≤ x12_1) = true := decide_eq_true c6;clear c6
         by_cases c7 : x12_1 < (l0.length : Int)
         · rw [if_pos c7] at H
           have c7b0 : decide (x12_1 < (l0.length : Int)) = true := decide_eq_true c7;clear c7;have H' := Zc.mk H;clear H;have p384 : 0 ≤ (x12_1 : Int) := of_decide_eq_true (by first | (with_reducible assumption) | assumption);have q384 : x12_1 < (l0.length : Int) := of_decide_eq_true (by first | (with_reducible assumption) | assumption);obtain ⟨ad384,e384,hx384_0,hx384_1,hx384_2,hx384_3⟩ := ZG HR0.out x12_1 p384 q384
           cases e384
           replace hx384_0 := (HB.out.cell (World.block_lt_of_cell? w _ hx384_0)).trans hx384_0;replace hx384_1 := (HB.out.cell (World.block_lt_of_cell? w _ hx384_1)).trans hx384_1;replace hx384_2 := (HB.out.cell (World.block_lt_of_cell? w _ hx384_2)).trans hx384_2;replace hx384_3 := (HB.out.cell (World.block_lt_of_cell? w _ hx384_3)).trans hx384_3;replace p384 := eq_true p384;replace q384 := eq_true q384
           go_wp2_with (first | ((with_reducible refine ZX (N := 6) rfl ?_);refine Xa ?hg (N := 6) ?hd (cs := #[.int .i64 0,.int .i64 0,.int .i64 0,.int .i64 0]) (t := 43) ?hr ?_;(case hd => rfl);(case hg => rfl);(case hr => first | (go_simp;done) | (go_simp;rfl));intro gb385 hg w8 hbox hb;have n0_ := Zc.mk (Zt (by repeat (first | (with_reducible first | exact HB.out | apply Zf | apply Za | apply Zd) | exact HB.out)) hb);have n1_ := Zc.mk (hbox);have n2_ := Zc.mk ((by rw [hg];exact (Zs (by repeat (first | (with_reducible first | exact HB.out | apply Zf | apply Za | apply Zd) | exact HB.out))) : w.heap.size ≤ gb385));have n3_ := Zc.mk ((by rw [hg];exact (Zs (by repeat (first | (with_reducible first | exact HB.out | apply Zf | apply Za | apply Zd) | exact HB.out))) : w.heap.size ≤ gb385));clear HB;have HB := n0_;have BK385 := n1_;have GW385 := n2_;have GE385 := n3_;clear n0_ n1_ n2_ n3_;clear hb hbox hg;have hcz9_0 : w8.cell? ⟨gb385,0,none⟩ = some (.int .i64 0) := (Zl BK385.out 0).trans rfl;have hcz9_1 : w8.cell? ⟨gb385,1,none⟩ = some (.int .i64 0) := (Zl BK385.out 1).trans rfl;have hcz9_2 : w8.cell? ⟨gb385,2,none⟩ = some (.int .i64 0) := (Zl BK385.out 2).trans rfl;have hcz9_3 : w8.cell? ⟨gb385,3,none⟩ = some (.int .i64 0) := (Zl BK385.out 3).trans rfl;have hfz9_0 := Zp BK385.out 0;have hfz9_1 := Zp BK385.out 1;have hfz9_2 := Zp BK385.out 2;have hfz9_3 := Zp BK385.out 3))
           go_roundg k1
           case measure => have := HK1.out;omega
           case rel => exact ⟨(wrap64 (x4_1 + (wrap64 (((Zg l0 x12_1).f2) * ((Zg l0 x12_1).f3))))),(wrap64 (x12_1 + 1)),(by first | rfl | (simp;done) | (simp [*];done)),(by first | rfl | (simp;done) | (simp [*];done)),H',⟨by have := HK1.out;omega⟩,⟨by repeat (first | (with_reducible first | exact HB.out | apply Zf | apply Za | apply Zd | refine Zy ?_ GE385.out) | exact HB.out)⟩⟩
         · rw [if_neg c7] at H
           exact absurd H (by simp)
       · rw [if_neg c6] at H
         exact absurd H (by simp)
     · rw [if_neg c5] at H
       have c5b0 : decide (x12_1 < (l0.length : Int)) = false := decide_eq_false c5;clear c5;simp only [Option.some.injEq,Prod.mk.injEq] at H;obtain ⟨rfl,rfl⟩ := H
       go_wp2
       go_ret2
       exact ⟨by first | rfl | (simp [Zw,Zv] <;> rfl) | (simp [*,Zw,Zv] <;> rfl),by repeat (first | (with_reducible first | exact HB.out | apply Zf | apply Za | apply Zd) | exact HB.out)⟩
 · replace c3 := Bool.eq_false_iff.mpr c3
   subst c3
   have H1 : (some (0,1)) = some (r1,r2) := by rw [if_neg (show ¬ (false = true) by decide)] at H;exact H
   clear H;have H := H1;clear H1;simp only [Option.some.injEq,Prod.mk.injEq] at H;obtain ⟨rfl,rfl⟩ := H
   go_enter Try.func17,Try.ntmps17
   go_wp2_with (first | ((with_reducible refine Zx (f := 22) rfl ?_);refine ZD (some 8) rfl rfl Try.func22 (by kernel_rfl) rfl #[.slice A0 l0.length c0] rfl (by (try simp only [List.map_toArray,List.map_cons,List.map_nil]);first | done | rfl | (simp only [List.length_drop,List.length_take];rfl)) ?_;(with_reducible refine (Xv.calls _ _ l0 false _ ?side1 ?side2 A2.out).mono ?_);(case side1 => repeat (first | exact HR0.out | (with_reducible refine Kd.Z2 ?_ _) | (with_reducible refine Kd.Z3 ?_ _) | (with_reducible refine Kd.Z8 ?_)));(case side2 => exact HC0.out);rintro e w10 ⟨rfl,hb⟩;refine ⟨_,rfl,?_⟩;have n0_ := Zc.mk (Zt (by repeat (first | (with_reducible first | exact HB.out | apply Zf | apply Za | apply Zd) | exact HB.out)) hb);clear HB;have HB := n0_;clear n0_;(try clear hb);(try clear hb2);(try clear hk);(try clear hi)))
   go_ret2
   exact ⟨by first | rfl | (simp [Zw,Zv] <;> rfl) | (simp [*,Zw,Zv] <;> rfl),by repeat (first | (with_reducible first | exact HB.out | apply Zf | apply Za | apply Zd) | exact HB.out)⟩
end Go.Proofs.Ythbajahklnpkcaa.PA

namespace Go.Proofs.Ythbajahklnpkcaa.PA
open Go.RowKit Go.Proofs.YthbajahklnpkcaaW.PrintWords Go.Proofs.YthbajahklnpkcaaW.PrintLast Go.Proofs.YthbajahklnpkcaaW.PrintMore
attribute [local go_sem] ZN ZO ZZ Xb ZI ZJ ZQ ZP
set_option linter.unusedVariables false
set_option linter.unusedSimpArgs false
def Z6.f (k : Nat) (l0 : List (S43)) : Option (Bool) := if (l0.length : Int) ≤ 200 then ((Zu.f k l0).bind fun t368 => (if t368 = 0 then ((Zb.f k l0 ([] : List (S43)) 1).bind fun t369 => ((Zj.f k t369 l0).bind fun t372 => (some t372))) else (some false))) else (some false)
theorem Z6.mono : ∀ a0 k,LeO (Z6.f k a0) (Z6.f (k + 1) a0) := by
 intro a0 k;unfold Z6.f
 repeat' first
  | (with_reducible exact Zj.mono _ _ _)
  | (with_reducible exact Zb.mono _ _ _ _)
  | (with_reducible exact Zu.mono _ _)
  | (with_reducible exact LeO.refl _)
  | (with_reducible exact LeO.none _)
  | (with_reducible refine LeO.ite ?_ ?_)
  | (with_reducible refine LeO.bind ?_ (fun _ => ?_))
  | exact Zj.mono _ _ _
  | exact Zb.mono _ _ _ _
  | exact Zu.mono _ _
  | exact LeO.none _
  | refine LeO.ite ?_ ?_
  | refine LeO.bind ?_ (fun _ => ?_)
set_option maxHeartbeats 8000000 in
set_option maxRecDepth 100000 in
theorem Z6.calls (k : Nat) (A0 : Option Addr) (c0 : Nat) (l0 : List (S43)) (r : Bool) (w : World) (hr0 : Kd.C k43 w A0 l0.length l0) (hc0 : l0.length ≤ c0) (h : Z6.f k l0 = some r) :
 Calls Try.prog 23 #[.slice A0 l0.length c0] w fun e w' => e = .returned (.bool r) ∧ Below w.heap.size w w' := by
 have HR0 := Zc.mk hr0;have HC0 := Zc.mk hc0;clear hr0 hc0;have HB := Zc.mk (Below.refl w.heap.size w);have H : (if (l0.length : Int) ≤ 200 then ((Zu.f k l0).bind fun t368 => (if t368 = 0 then ((Zb.f k l0 ([] : List (S43)) 1).bind fun t369 => ((Zj.f k t369 l0).bind fun t372 => (some t372))) else (some false))) else (some false)) = some r := h;clear h
 by_cases c2 : (l0.length : Int) ≤ 200
 · rw [if_pos c2] at H
   have c2b0 : decide ((l0.length : Int) ≤ 200) = true := decide_eq_true c2;have c2b1 : decide (l0.length ≤ 200) = true := decide_eq_true (by omega);clear c2;replace H := Option.bind_eq_some_iff.mp H;obtain ⟨t368,A30,H⟩ := H;replace H : (if t368 = 0 then ((Zb.f k l0 ([] : List (S43)) 1).bind fun t369 => ((Zj.f k t369 l0).bind fun t372 => (some t372))) else (some false)) = some r := H;have A3 := Zc.mk A30;clear A30
   by_cases c4 : t368 = 0
   · rw [if_pos c4] at H
     have c4b0 : (t368 == 0) = true := beq_iff_eq.mpr c4;have c4b1 : (t368 != 0) = false := bne_eq_false_iff_eq.mpr c4;clear c4;replace H := Option.bind_eq_some_iff.mp H;obtain ⟨t369,A50,H⟩ := H;replace H : ((Zj.f k t369 l0).bind fun t372 => (some t372)) = some r := H;have A5 := Zc.mk A50;clear A50;replace H := Option.bind_eq_some_iff.mp H;obtain ⟨t372,A60,H⟩ := H;replace H : (some t372) = some r := H;have A6 := Zc.mk A60;clear A60;obtain rfl := Option.some.inj H
     go_enter Try.func23,Try.ntmps23
     go_wp2_with (first | (go_at_call 74;(with_reducible refine (Zu.calls k _ _ l0 t368 _ ?side1 ?side2 A3.out).mono ?_);(case side1 => repeat (first | exact HR0.out | (with_reducible refine Kd.Z2 ?_ _) | (with_reducible refine Kd.Z3 ?_ _) | (with_reducible refine Kd.Z8 ?_)));(case side2 => exact HC0.out);rintro e w7 ⟨rfl,hb⟩;have n0_ := Zc.mk (Zt (by repeat (first | (with_reducible first | exact HB.out | apply Zf | apply Za | apply Zd) | exact HB.out)) hb);clear HB;have HB := n0_;clear n0_;(try clear hb);(try clear hb2);(try clear hk);(try clear hi)) | (go_at_call 61;(refine (Zb.calls k _ _ l0 _ _ ([] : List (S43)) 1 t369 _ ?side1 ?side2 ?side3 ?side4 A5.out).mono ?_);(case side1 => repeat (first | exact (Kd.ZB HR0.out HB.out) | (with_reducible refine Kd.Z2 ?_ _) | (with_reducible refine Kd.Z3 ?_ _) | (with_reducible refine Kd.Z8 ?_)));(case side2 => exact HC0.out);(case side3 => exact Kd.C_nil _ _);(case side4 => exact Nat.le_refl _);rintro e w8 ⟨v370,rfl,ho0,hb⟩;have n0_ := Zc.mk (Kd.ZM ho0 (Zs (by repeat (first | (with_reducible first | exact HB.out | apply Zf | apply Za | apply Zd) | exact HB.out))));have n1_ := Zc.mk (Zt (by repeat (first | (with_reducible first | exact HB.out | apply Zf | apply Za | apply Zd) | exact HB.out)) hb);clear HB;have HO371 := n0_;have HB := n1_;clear n0_ n1_;(try clear hb);(try clear hb2);(try clear hk);(try clear hi);(try clear ho0);obtain ⟨Ao9,co9,eo9⟩ := Kd.Z9 HO371.out;subst eo9) | (go_at_call 14;(with_reducible refine (Zj.calls k _ _ t369 _ _ l0 t372 _ ?side1 ?side2 ?side3 ?side4 A6.out).mono ?_);(case side1 => repeat (first | exact (Kd.Zr HO371.out).2.2 | (with_reducible refine Kd.Z2 ?_ _) | (with_reducible refine Kd.Z3 ?_ _) | (with_reducible refine Kd.Z8 ?_)));(case side2 => exact (Kd.Zr HO371.out).2.1);(case side3 => repeat (first | exact (Kd.ZB HR0.out HB.out) | (with_reducible refine Kd.Z2 ?_ _) | (with_reducible refine Kd.Z3 ?_ _) | (with_reducible refine Kd.Z8 ?_)));(case side4 => exact HC0.out);rintro e w' ⟨rfl,⟨nd,rfl⟩⟩))
     go_ret;exact ⟨by first | rfl | (simp [Zw,Zv] <;> rfl) | (simp [*,Zw,Zv] <;> rfl),by repeat (first | (with_reducible first | exact HB.out | apply Zf | apply Za | apply Zd) | exact HB.out)⟩
   · rw [if_neg c4] at H
     have c4b0 : (t368 == 0) = false := beq_eq_false_iff_ne.mpr c4;have c4b1 : (t368 != 0) = true := bne_iff_ne.mpr c4;obtain rfl := Option.some.inj H
     go_enter Try.func23,Try.ntmps23
     go_wp2_with (first | (go_at_call 74;(with_reducible refine (Zu.calls k _ _ l0 t368 _ ?side1 ?side2 A3.out).mono ?_);(case side1 => repeat (first | exact HR0.out | (with_reducible refine Kd.Z2 ?_ _) | (with_reducible refine Kd.Z3 ?_ _) | (with_reducible refine Kd.Z8 ?_)));(case side2 => exact HC0.out);rintro e w10 ⟨rfl,hb⟩;have n0_ := Zc.mk (Zt (by repeat (first | (with_reducible first | exact HB.out | apply Zf | apply Za | apply Zd) | exact HB.out)) hb);clear HB;have HB := n0_;clear n0_;(try clear hb);(try clear hb2);(try clear hk);(try clear hi)))
     go_ret;exact ⟨by first | rfl | (simp [Zw,Zv] <;> rfl) | (simp [*,Zw,Zv] <;> rfl),by repeat (first | (with_reducible first | exact HB.out | apply Zf | apply Za | apply Zd) | exact HB.out)⟩
 · rw [if_neg c2] at H
   have c2b0 : decide ((l0.length : Int) ≤ 200) = false := decide_eq_false c2;have c2b1 : decide (l0.length ≤ 200) = false := decide_eq_false (by omega);clear c2;obtain rfl := Option.some.inj H
   go_enter Try.func23,Try.ntmps23
   go_wp2
   go_ret;exact ⟨by first | rfl | (simp [Zw,Zv] <;> rfl) | (simp [*,Zw,Zv] <;> rfl),by repeat (first | (with_reducible first | exact HB.out | apply Zf | apply Za | apply Zd) | exact HB.out)⟩
end Go.Proofs.Ythbajahklnpkcaa.PA

namespace Go.Proofs.Ythbajahklnpkcaa.PA
open Go.RowKit Go.Proofs.YthbajahklnpkcaaW.PrintWords Go.Proofs.YthbajahklnpkcaaW.PrintLast Go.Proofs.YthbajahklnpkcaaW.PrintMore
attribute [local go_sem] ZN ZO ZZ Xb ZI ZJ ZQ ZP
set_option linter.unusedVariables false
set_option linter.unusedSimpArgs false
def ZF.f (k : Nat) (l0 : List (S43)) : Option ((List (S43)) × Int) := (Zu.f k l0).bind fun t373 => (if t373 = 0 then (if (l0.length : Int) > 200 then (some (([] : List (S43)),4)) else (some (l0,0))) else (some (([] : List (S43)),7)))
theorem ZF.mono : ∀ a0 k,LeO (ZF.f k a0) (ZF.f (k + 1) a0) := by
 intro a0 k;unfold ZF.f
 repeat' first
  | (with_reducible exact Zu.mono _ _)
  | (with_reducible exact LeO.refl _)
  | (with_reducible exact LeO.none _)
  | (with_reducible refine LeO.ite ?_ ?_)
  | (with_reducible refine LeO.bind ?_ (fun _ => ?_))
  | exact Zu.mono _ _
  | exact LeO.none _
  | refine LeO.ite ?_ ?_
  | refine LeO.bind ?_ (fun _ => ?_)
set_option maxHeartbeats 8000000 in
set_option maxRecDepth 100000 in
theorem ZF.calls (k : Nat) (P0_ : Nat → Prop) (u9000_ : Value) (l0 : List (S43)) (r1 : List (S43)) (r2 : Int) (w0 w : World) (hB : Below w0.heap.size w0 w) (ho0 : Kd.R k43 43 w w0.heap.size P0_ u9000_ l0) (h : ZF.f k l0 = some (r1,r2)) :
 Calls Try.prog 60 #[u9000_] w fun e w' => ∃ v0_ : Value,e = .returned (.tuple #[v0_,.int .i64 r2]) ∧ Kd.R k43 43 w' w0.heap.size (fun k_ => (P0_ k_ ∨ w.heap.size ≤ k_)) v0_ r1 ∧ Below w0.heap.size w0 w' ∧ Kept w w' (fun k_ => P0_ k_) := by
 have HO0 := Zc.mk (show Kd.R k43 43 w w0.heap.size (fun k_ => (P0_ k_ ∨ w.heap.size ≤ k_)) u9000_ l0 from Kd.ZA ho0 (fun k_ hk => (.inl hk)));have HK := Zc.mk (Kept.refl w (fun k_ => P0_ k_));have HW0 := Zc.mk hB.size;have HB := Zc.mk hB;clear hB;have H : ((Zu.f k l0).bind fun t373 => (if t373 = 0 then (if (l0.length : Int) > 200 then (some (([] : List (S43)),4)) else (some (l0,0))) else (some (([] : List (S43)),7)))) = some (r1,r2) := h;clear h;replace H := Option.bind_eq_some_iff.mp H;obtain ⟨t373,A20,H⟩ := H;replace H : (if t373 = 0 then (if (l0.length : Int) > 200 then (some (([] : List (S43)),4)) else (some (l0,0))) else (some (([] : List (S43)),7))) = some (r1,r2) := H;have A2 := Zc.mk A20;clear A20
 by_cases c3 : t373 = 0
 · rw [if_pos c3] at H
   have c3b0 : (t373 == 0) = true := beq_iff_eq.mpr c3;have c3b1 : (t373 != 0) = false := bne_eq_false_iff_eq.mpr c3;clear c3
   by_cases c4 : (l0.length : Int) > 200
   · rw [if_pos c4] at H
     have c4b0 : decide (200 < (l0.length : Int)) = true := decide_eq_true c4;have c4b1 : decide (200 < l0.length) = true := decide_eq_true (by omega);clear c4;simp only [Option.some.injEq,Prod.mk.injEq] at H;obtain ⟨rfl,rfl⟩ := H;obtain ⟨Ao5,co5,eo5⟩ := Kd.Z9 HO0.out;subst eo5
     go_enter Try.func60,Try.ntmps60
     go_wp2_with (first | ((with_reducible refine Zx (f := 74) rfl ?_);refine ZD (some 5) rfl rfl Try.func74 (by kernel_rfl) rfl #[.slice Ao5 l0.length co5] rfl (by (try simp only [List.map_toArray,List.map_cons,List.map_nil]);first | done | rfl | (simp only [List.length_drop,List.length_take];rfl)) ?_;(with_reducible refine (Zu.calls k _ _ l0 t373 _ ?side1 ?side2 A2.out).mono ?_);(case side1 => repeat (first | exact (Kd.Zr HO0.out).2.2 | (with_reducible refine Kd.Z2 ?_ _) | (with_reducible refine Kd.Z3 ?_ _) | (with_reducible refine Kd.Z8 ?_)));(case side2 => exact (Kd.Zr HO0.out).2.1);rintro e w6 ⟨rfl,hb⟩;refine ⟨_,rfl,?_⟩;have n0_ := Zc.mk (Kd.ZC (by (with_reducible repeat (first | apply Kd.Zi | apply Kd.Zh | apply Kd.Zk));exact HO0.out) hb);have n1_ := Zc.mk (Kept.below (S := (fun k_ => P0_ k_)) (by repeat (first | (with_reducible first | exact HK.out | apply Kept.alloc | apply Kept.drewN | apply Kept.drew) | exact HK.out)) hb);have n2_ := Zc.mk (Zt (by repeat (first | (with_reducible first | exact HB.out | apply Zf | apply Za | apply Zd) | exact HB.out)) hb);clear HO0;clear HK;clear HB;have HO0 := n0_;have HK := n1_;have HB := n2_;clear n0_ n1_ n2_;(try clear hb);(try clear hb2);(try clear hk);(try clear hi)))
     go_ret2
     exact ⟨_,by first | rfl | (simp [Zw,Zv] <;> rfl) | (simp [*,Zw,Zv] <;> rfl),by first | exact Kd.R_nil _ _ _ _ _ | exact Kd.N_nil _ _ _ _ _ | exact Kd.V_nil _ _ _ _ _ | exact Kd.Q_nil _ _ _ _ _ | exact Kd.S_nil _ _ _ _ _,by repeat (first | (with_reducible first | exact HB.out | apply Zf | apply Za | apply Zd) | exact HB.out),by repeat (first | (with_reducible first | exact HK.out | apply Kept.alloc | apply Kept.drewN | apply Kept.drew) | exact HK.out)⟩
   · rw [if_neg c4] at H
     have c4b0 : decide (200 < (l0.length : Int)) = false := decide_eq_false c4;have c4b1 : decide (200 < l0.length) = false := decide_eq_false (by omega);clear c4;simp only [Option.some.injEq,Prod.mk.injEq] at H;obtain ⟨rfl,rfl⟩ := H;obtain ⟨Ao7,co7,eo7⟩ := Kd.Z9 HO0.out;subst eo7
     go_enter Try.func60,Try.ntmps60
     go_wp2_with (first | ((with_reducible refine Zx (f := 74) rfl ?_);refine ZD (some 5) rfl rfl Try.func74 (by kernel_rfl) rfl #[.slice Ao7 l0.length co7] rfl (by (try simp only [List.map_toArray,List.map_cons,List.map_nil]);first | done | rfl | (simp only [List.length_drop,List.length_take];rfl)) ?_;(with_reducible refine (Zu.calls k _ _ l0 t373 _ ?side1 ?side2 A2.out).mono ?_);(case side1 => repeat (first | exact (Kd.Zr HO0.out).2.2 | (with_reducible refine Kd.Z2 ?_ _) | (with_reducible refine Kd.Z3 ?_ _) | (with_reducible refine Kd.Z8 ?_)));(case side2 => exact (Kd.Zr HO0.out).2.1);rintro e w8 ⟨rfl,hb⟩;refine ⟨_,rfl,?_⟩;have n0_ := Zc.mk (Kd.ZC (by (with_reducible repeat (first | apply Kd.Zi | apply Kd.Zh | apply Kd.Zk));exact HO0.out) hb);have n1_ := Zc.mk (Kept.below (S := (fun k_ => P0_ k_)) (by repeat (first | (with_reducible first | exact HK.out | apply Kept.alloc | apply Kept.drewN | apply Kept.drew) | exact HK.out)) hb);have n2_ := Zc.mk (Zt (by repeat (first | (with_reducible first | exact HB.out | apply Zf | apply Za | apply Zd) | exact HB.out)) hb);clear HO0;clear HK;clear HB;have HO0 := n0_;have HK := n1_;have HB := n2_;clear n0_ n1_ n2_;(try clear hb);(try clear hb2);(try clear hk);(try clear hi)))
     go_ret2
     exact ⟨_,by first | rfl | (simp [Zw,Zv] <;> rfl) | (simp [*,Zw,Zv] <;> rfl),by (with_reducible repeat (first | apply Kd.Zi | apply Kd.Zh | apply Kd.Zk));exact HO0.out,by repeat (first | (with_reducible first | exact HB.out | apply Zf | apply Za | apply Zd) | exact HB.out),by repeat (first | (with_reducible first | exact HK.out | apply Kept.alloc | apply Kept.drewN | apply Kept.drew) | exact HK.out)⟩
 · rw [if_neg c3] at H
   have c3b0 : (t373 == 0) = false := beq_eq_false_iff_ne.mpr c3;have c3b1 : (t373 != 0) = true := bne_iff_ne.mpr c3;simp only [Option.some.injEq,Prod.mk.injEq] at H;obtain ⟨rfl,rfl⟩ := H;obtain ⟨Ao9,co9,eo9⟩ := Kd.Z9 HO0.out;subst eo9
   go_enter Try.func60,Try.ntmps60
   go_wp2_with (first | ((with_reducible refine Zx (f := 74) rfl ?_);refine ZD (some 5) rfl rfl Try.func74 (by kernel_rfl) rfl #[.slice Ao9 l0.length co9] rfl (by (try simp only [List.map_toArray,List.map_cons,List.map_nil]);first | done | rfl | (simp only [List.length_drop,List.length_take];rfl)) ?_;(with_reducible refine (Zu.calls k _ _ l0 t373 _ ?side1 ?side2 A2.out).mono ?_);(case side1 => repeat (first | exact (Kd.Zr HO0.out).2.2 | (with_reducible refine Kd.Z2 ?_ _) | (with_reducible refine Kd.Z3 ?_ _) | (with_reducible refine Kd.Z8 ?_)));(case side2 => exact (Kd.Zr HO0.out).2.1);rintro e w10 ⟨rfl,hb⟩;refine ⟨_,rfl,?_⟩;have n0_ := Zc.mk (Kd.ZC (by (with_reducible repeat (first | apply Kd.Zi | apply Kd.Zh | apply Kd.Zk));exact HO0.out) hb);have n1_ := Zc.mk (Kept.below (S := (fun k_ => P0_ k_)) (by repeat (first | (with_reducible first | exact HK.out | apply Kept.alloc | apply Kept.drewN | apply Kept.drew) | exact HK.out)) hb);have n2_ := Zc.mk (Zt (by repeat (first | (with_reducible first | exact HB.out | apply Zf | apply Za | apply Zd) | exact HB.out)) hb);clear HO0;clear HK;clear HB;have HO0 := n0_;have HK := n1_;have HB := n2_;clear n0_ n1_ n2_;(try clear hb);(try clear hb2);(try clear hk);(try clear hi)))
   go_ret2
   exact ⟨_,by first | rfl | (simp [Zw,Zv] <;> rfl) | (simp [*,Zw,Zv] <;> rfl),by first | exact Kd.R_nil _ _ _ _ _ | exact Kd.N_nil _ _ _ _ _ | exact Kd.V_nil _ _ _ _ _ | exact Kd.Q_nil _ _ _ _ _ | exact Kd.S_nil _ _ _ _ _,by repeat (first | (with_reducible first | exact HB.out | apply Zf | apply Za | apply Zd) | exact HB.out),by repeat (first | (with_reducible first | exact HK.out | apply Kept.alloc | apply Kept.drewN | apply Kept.drew) | exact HK.out)⟩
end Go.Proofs.Ythbajahklnpkcaa.PA

namespace Go.Proofs.Ythbajahklnpkcaa.PA
open Go.RowKit Go.Proofs.YthbajahklnpkcaaW.PrintWords Go.Proofs.YthbajahklnpkcaaW.PrintLast Go.Proofs.YthbajahklnpkcaaW.PrintMore
attribute [local go_sem] ZN ZO ZZ Xb ZI ZJ ZQ ZP
set_option linter.unusedVariables false
set_option linter.unusedSimpArgs false
def Zm.j0 : Nat → List (S43) → List (S43) → Int → Bool → Option ((List (S43)) × Int)
 | 0,_,_,_,_ => none
 | k + 1,x0,x1,x2,x15 => if x15 = true then (some (([] : List (S43)),1)) else ((Zb.f k x0 x1 x2).bind fun t376 => ((ZF.f k t376).bind fun bt379 => (some (bt379.1,bt379.2))))
def Zm.f (k : Nat) (l0 : List (S43)) (l1 : List (S43)) (a2 : Int) : Option ((List (S43)) × Int) := (Z6.f k l0).bind fun t374 => (if t374 = true then ((Z6.f k l1).bind fun t375 => (Zm.j0 k l0 l1 a2 (!t375))) else (Zm.j0 k l0 l1 a2 true))
theorem Zm.Xo : ∀ k,(∀ y0 y1 y2 y3,LeO (Zm.j0 k y0 y1 y2 y3) (Zm.j0 (k + 1) y0 y1 y2 y3))
 | 0 => fun _ _ _ _ r h => by simp [Zm.j0] at h
 | k + 1 => by
  have ih0 := Zm.Xo k
  · intro y0 y1 y2 y3
    unfold Zm.j0
    repeat' first
    | (with_reducible exact ih0 _ _ _ _)
    | (with_reducible exact Z6.mono _ _)
    | (with_reducible exact Zb.mono _ _ _ _)
    | (with_reducible exact ZF.mono _ _)
    | (with_reducible exact LeO.refl _)
    | (with_reducible exact LeO.none _)
    | (with_reducible refine LeO.ite ?_ ?_)
    | (with_reducible refine LeO.bind ?_ (fun _ => ?_))
    | exact ih0 _ _ _ _
    | exact Z6.mono _ _
    | exact Zb.mono _ _ _ _
    | exact ZF.mono _ _
    | exact LeO.none _
    | refine LeO.ite ?_ ?_
    | refine LeO.bind ?_ (fun _ => ?_)
theorem Zm.mono : ∀ a0 a1 a2 k,LeO (Zm.f k a0 a1 a2) (Zm.f (k + 1) a0 a1 a2) := by
 intro a0 a1 a2 k;have ih0 := Zm.Xo k;unfold Zm.f
 repeat' first
  | (with_reducible exact ih0 _ _ _ _)
  | (with_reducible exact Z6.mono _ _)
  | (with_reducible exact Zb.mono _ _ _ _)
  | (with_reducible exact ZF.mono _ _)
  | (with_reducible exact LeO.refl _)
  | (with_reducible exact LeO.none _)
  | (with_reducible refine LeO.ite ?_ ?_)
  | (with_reducible refine LeO.bind ?_ (fun _ => ?_))
  | exact ih0 _ _ _ _
  | exact Z6.mono _ _
  | exact Zb.mono _ _ _ _
  | exact ZF.mono _ _
  | exact LeO.none _
  | refine LeO.ite ?_ ?_
  | refine LeO.bind ?_ (fun _ => ?_)
set_option maxHeartbeats 8000000 in
set_option maxRecDepth 100000 in
theorem Zm.calls (k : Nat) (A0 : Option Addr) (c0 : Nat) (l0 : List (S43)) (A1 : Option Addr) (c1 : Nat) (l1 : List (S43)) (a2 : Int) (r1 : List (S43)) (r2 : Int) (w : World) (hr0 : Kd.C k43 w A0 l0.length l0) (hc0 : l0.length ≤ c0) (hr1 : Kd.C k43 w A1 l1.length l1) (hc1 : l1.length ≤ c1) (h : Zm.f k l0 l1 a2 = some (r1,r2)) :
 Calls Try.prog 13 #[.slice A0 l0.length c0,.slice A1 l1.length c1,.int .i64 a2] w fun e w' => ∃ v0_ : Value,e = .returned (.tuple #[v0_,.int .i64 r2]) ∧ Kd.R k43 43 w' w.heap.size (fun _ => True) v0_ r1 ∧ Below w.heap.size w w' := by
 have HR0 := Zc.mk hr0;have HC0 := Zc.mk hc0;clear hr0 hc0;have HR1 := Zc.mk hr1;have HC1 := Zc.mk hc1;clear hr1 hc1;have HB := Zc.mk (Below.refl w.heap.size w);have H : ((Z6.f k l0).bind fun t374 => (if t374 = true then ((Z6.f k l1).bind fun t375 => (Zm.j0 k l0 l1 a2 (!t375))) else (Zm.j0 k l0 l1 a2 true))) = some (r1,r2) := h;clear h;have HC4 := Zc.mk H;clear H
 go_enter Try.func13,Try.ntmps13
 go_upto_region 1 with (fail)
 go_cut [15] (fun v15 wc => ∃ (kq : Nat) (x15_3 : Bool),v15 = .bool x15_3 ∧ Zc (Zm.j0 kq l0 l1 a2 x15_3 = some (r1,r2)) ∧ Zc (kq ≤ k) ∧ Zc (Below w.heap.size w wc))
 case first =>
  have H := HC4.out;clear HC4;replace H := Option.bind_eq_some_iff.mp H;obtain ⟨t374,A50,H⟩ := H;replace H : (if t374 = true then ((Z6.f k l1).bind fun t375 => (Zm.j0 k l0 l1 a2 (!t375))) else (Zm.j0 k l0 l1 a2 true)) = some (r1,r2) := H;have A5 := Zc.mk A50;clear A50
  by_cases c6 : t374 = true
  · subst c6
    have H1 : ((Z6.f k l1).bind fun t375 => (Zm.j0 k l0 l1 a2 (!t375))) = some (r1,r2) := by rw [if_pos rfl] at H;exact H
    clear H;have H := H1;clear H1;replace H := Option.bind_eq_some_iff.mp H;obtain ⟨t375,A70,H⟩ := H;replace H : (Zm.j0 k l0 l1 a2 (!t375)) = some (r1,r2) := H;have A7 := Zc.mk A70;clear A70;have H' := Zc.mk H;clear H
    go_wp2_with (first | ((with_reducible refine Zx (f := 23) rfl ?_);refine ZD (some 9) rfl rfl Try.func23 (by kernel_rfl) rfl #[.slice A0 l0.length c0] rfl (by (try simp only [List.map_toArray,List.map_cons,List.map_nil]);first | done | rfl | (simp only [List.length_drop,List.length_take];rfl)) ?_;(with_reducible refine (Z6.calls k _ _ l0 true _ ?side1 ?side2 A5.out).mono ?_);(case side1 => repeat (first | exact (Kd.ZB HR0.out HB.out) | (with_reducible refine Kd.Z2 ?_ _) | (with_reducible refine Kd.Z3 ?_ _) | (with_reducible refine Kd.Z8 ?_)));(case side2 => exact HC0.out);rintro e w8 ⟨rfl,hb⟩;refine ⟨_,rfl,?_⟩;have n0_ := Zc.mk (Zt (by repeat (first | (with_reducible first | exact HB.out | apply Zf | apply Za | apply Zd) | exact HB.out)) hb);clear HB;have HB := n0_;clear n0_;(try clear hb);(try clear hb2);(try clear hk);(try clear hi)) | (go_at_call 23;(with_reducible refine (Z6.calls k _ _ l1 t375 _ ?side1 ?side2 A7.out).mono ?_);(case side1 => repeat (first | exact (Kd.ZB HR1.out HB.out) | (with_reducible refine Kd.Z2 ?_ _) | (with_reducible refine Kd.Z3 ?_ _) | (with_reducible refine Kd.Z8 ?_)));(case side2 => exact HC1.out);rintro e w9 ⟨rfl,hb⟩;have n0_ := Zc.mk (Zt (by repeat (first | (with_reducible first | exact HB.out | apply Zf | apply Za | apply Zd) | exact HB.out)) hb);clear HB;have HB := n0_;clear n0_;(try clear hb);(try clear hb2);(try clear hk);(try clear hi)))
    go_meet
    case rel => exact ⟨_,(!t375),(by first | rfl | (simp;done) | (simp [*];done)),H',⟨by first | omega | exact Nat.le_refl _⟩,⟨by repeat (first | (with_reducible first | exact HB.out | apply Zf | apply Za | apply Zd) | exact HB.out)⟩⟩
  · replace c6 := Bool.eq_false_iff.mpr c6
    subst c6
    have H1 : (Zm.j0 k l0 l1 a2 true) = some (r1,r2) := by rw [if_neg (show ¬ (false = true) by decide)] at H;exact H
    clear H;have H := H1;clear H1;have H' := Zc.mk H;clear H
    go_wp2_with (first | ((with_reducible refine Zx (f := 23) rfl ?_);refine ZD (some 9) rfl rfl Try.func23 (by kernel_rfl) rfl #[.slice A0 l0.length c0] rfl (by (try simp only [List.map_toArray,List.map_cons,List.map_nil]);first | done | rfl | (simp only [List.length_drop,List.length_take];rfl)) ?_;(with_reducible refine (Z6.calls k _ _ l0 false _ ?side1 ?side2 A5.out).mono ?_);(case side1 => repeat (first | exact (Kd.ZB HR0.out HB.out) | (with_reducible refine Kd.Z2 ?_ _) | (with_reducible refine Kd.Z3 ?_ _) | (with_reducible refine Kd.Z8 ?_)));(case side2 => exact HC0.out);rintro e w10 ⟨rfl,hb⟩;refine ⟨_,rfl,?_⟩;have n0_ := Zc.mk (Zt (by repeat (first | (with_reducible first | exact HB.out | apply Zf | apply Za | apply Zd) | exact HB.out)) hb);clear HB;have HB := n0_;clear n0_;(try clear hb);(try clear hb2);(try clear hk);(try clear hi)))
    go_meet
    case rel => exact ⟨_,(true),(by first | rfl | (simp;done) | (simp [*];done)),H',⟨by first | omega | exact Nat.le_refl _⟩,⟨by repeat (first | (with_reducible first | exact HB.out | apply Zf | apply Za | apply Zd) | exact HB.out)⟩⟩
 case rest =>
  clear HC4
  (try clear c1); (try clear c2); (try clear p2); (try clear c6)
  obtain ⟨kq,x15_3,rfl,HA,HJ3,HB⟩ := hcut
  cases kq with
  | zero => exact absurd HA.out (by simp [Zm.j0])
  | succ kj3 =>
   have H := HA.out;clear HA;simp only [Zm.j0] at H
   by_cases c11 : x15_3 = true
   · subst c11
     have H1 : (some (([] : List (S43)),1)) = some (r1,r2) := by rw [if_pos rfl] at H;exact H
     clear H;have H := H1;clear H1;simp only [Option.some.injEq,Prod.mk.injEq] at H;obtain ⟨rfl,rfl⟩ := H
     go_wp2
     go_ret2
     exact ⟨_,by first | rfl | (simp [Zw,Zv] <;> rfl) | (simp [*,Zw,Zv] <;> rfl),by first | exact Kd.R_nil _ _ _ _ _ | exact Kd.N_nil _ _ _ _ _ | exact Kd.V_nil _ _ _ _ _ | exact Kd.Q_nil _ _ _ _ _ | exact Kd.S_nil _ _ _ _ _,by repeat (first | (with_reducible first | exact HB.out | apply Zf | apply Za | apply Zd) | exact HB.out)⟩
   · replace c11 := Bool.eq_false_iff.mpr c11
     subst c11
     have H1 : ((Zb.f kj3 l0 l1 a2).bind fun t376 => ((ZF.f kj3 t376).bind fun bt379 => (some (bt379.1,bt379.2)))) = some (r1,r2) := by rw [if_neg (show ¬ (false = true) by decide)] at H;exact H
     clear H;have H := H1;clear H1;replace H := Option.bind_eq_some_iff.mp H;obtain ⟨t376,A120,H⟩ := H;replace H : ((ZF.f kj3 t376).bind fun bt379 => (some (bt379.1,bt379.2))) = some (r1,r2) := H;have A12 := Zc.mk A120;clear A120;replace H := Option.bind_eq_some_iff.mp H;obtain ⟨⟨t379,t382⟩,A130,H⟩ := H;replace H : (some (t379,t382)) = some (r1,r2) := H;have A13 := Zc.mk A130;clear A130;simp only [Option.some.injEq,Prod.mk.injEq] at H;obtain ⟨rfl,rfl⟩ := H
     go_wp2_with (first | ((with_reducible refine Zx (f := 61) rfl ?_);refine ZD (some 19) rfl rfl Try.func61 (by kernel_rfl) rfl #[.slice A0 l0.length c0,.slice A1 l1.length c1,.int .i64 a2] rfl (by (try simp only [List.map_toArray,List.map_cons,List.map_nil]);first | done | rfl | (simp only [List.length_drop,List.length_take];rfl)) ?_;(with_reducible refine (Zb.calls kj3 _ _ l0 _ _ l1 a2 t376 _ ?side1 ?side2 ?side3 ?side4 A12.out).mono ?_);(case side1 => repeat (first | exact (Kd.ZB HR0.out HB.out) | (with_reducible refine Kd.Z2 ?_ _) | (with_reducible refine Kd.Z3 ?_ _) | (with_reducible refine Kd.Z8 ?_)));(case side2 => exact HC0.out);(case side3 => repeat (first | exact (Kd.ZB HR1.out HB.out) | (with_reducible refine Kd.Z2 ?_ _) | (with_reducible refine Kd.Z3 ?_ _) | (with_reducible refine Kd.Z8 ?_)));(case side4 => exact HC1.out);rintro e w14 ⟨v377,rfl,ho0,hb⟩;refine ⟨_,rfl,?_⟩;have n0_ := Zc.mk (Kd.ZM ho0 (Zs (by repeat (first | (with_reducible first | exact HB.out | apply Zf | apply Za | apply Zd) | exact HB.out))));have n1_ := Zc.mk (Zt (by repeat (first | (with_reducible first | exact HB.out | apply Zf | apply Za | apply Zd) | exact HB.out)) hb);clear HB;have HO378 := n0_;have HB := n1_;clear n0_ n1_;(try clear hb);(try clear hb2);(try clear hk);(try clear hi);(try clear ho0);obtain ⟨Ao15,co15,eo15⟩ := Kd.Z9 HO378.out;subst eo15) | ((with_reducible refine Zx (f := 60) rfl ?_);refine ZD (some 20) rfl rfl Try.func60 (by kernel_rfl) rfl #[.slice Ao15 t376.length co15] rfl (by (try simp only [List.map_toArray,List.map_cons,List.map_nil]);first | done | rfl | (simp only [List.length_drop,List.length_take];rfl)) ?_;(with_reducible refine (ZF.calls kj3 (fun k_ => some k_ = (.slice Ao15 t376.length co15 : Value).ownBlock) (.slice Ao15 t376.length co15) t376 t379 t382 w _ ?side1 ?side2 A13.out).mono ?_);(case side1 => repeat (first | (with_reducible first | exact HB.out | apply Zf | apply Za | apply Zd) | exact HB.out));(case side2 => exact Kd.Jw rfl HO378.out);rintro e w16 ⟨v380,rfl,ho0,hb,hkp⟩;refine ⟨_,rfl,?_⟩;have n0_ := Zc.mk (Kd.ZA (ok' := fun k_ => True) ho0 (fun k_ hk_ => trivial));have n1_ := Zc.mk (hb);clear HB;clear HO378;have HO381 := n0_;have HB := n1_;clear n0_ n1_;(try clear hb);(try clear hkp);(try clear ho0)))
     go_ret2
     exact ⟨_,by first | rfl | (simp [Zw,Zv] <;> rfl) | (simp [*,Zw,Zv] <;> rfl),by (with_reducible repeat (first | apply Kd.Zi | apply Kd.Zh | apply Kd.Zk));exact HO381.out,by repeat (first | (with_reducible first | exact HB.out | apply Zf | apply Za | apply Zd) | exact HB.out)⟩
end Go.Proofs.Ythbajahklnpkcaa.PA

namespace Go.Proofs.Ythbajahklnpkcaa.PA
open Go.RowKit Go.Proofs.YthbajahklnpkcaaW.PrintWords Go.Proofs.YthbajahklnpkcaaW.PrintLast Go.Proofs.YthbajahklnpkcaaW.PrintMore
set_option linter.unusedVariables false
set_option linter.unusedSimpArgs false
theorem eqL_refl (l : List S43) : eqL l l = true := (Q4 l l).mpr rfl
theorem rRects' (l m : List S43) (hm : m.length ≤ 9223372036854775807) : Ev (fun k => Zj.f k l m) (eqL l m) := by
 by_cases h : l.length = m.length
 · exact rRects l m (by omega)
 · unfold Zj.f
   exact Ev.val (fun k => by rw [if_neg (by omega),J4 l m h])
theorem validB_def (l : List S43) (h1 : ¬ 200 < l.length) (hb : badL l = false) : validB l = eqL (full (TR orB l []) 40000) l := by
 rw [Bool.eq_iff_iff,Xr,Q4];unfold validRegionB;exact ⟨fun h => h.2.2,fun h => ⟨by omega,hb,h⟩⟩
theorem Q9 (l : List S43) (hl : l.length ≤ 9223372036854775807) : Ev (fun k => Z6.f k l) (validB l) := by
 unfold Z6.f
 by_cases h1 : (l.length : Int) ≤ 200
 · refine Ev.congr (fun k => if_pos h1) ?_
   refine Ev.bind (rrects l hl) ?_
   cases hb : badL l with
   | true =>
    refine Ev.val (fun k => ?_);rw [if_pos rfl,if_neg (by decide)]
    congr 1
    unfold validB;rw [if_neg (by omega),if_pos hb]
   | false =>
    refine Ev.congr (h := fun k => (Zb.f k l ([] : List (S43)) 1).bind fun t369 => ((Zj.f k t369 l).bind fun t372 => (some t372))) (fun k => by rw [if_neg (show ¬ (false = true) by decide),if_pos rfl]) ?_;refine Ev.bind (rcanonical l [] (by omega) (by simp) hb rfl 1 (.inl rfl)) ?_;rw [validB_def l (by omega) hb];exact Ev.bind (rRects' _ l hl) (Ev.val (fun k => rfl))
 · refine Ev.val (fun k => ?_)
   rw [if_neg h1]
   congr 1
   unfold validB;rw [if_pos (by omega)]
theorem rtold (l : List S43) (hl : l.length ≤ 9223372036854775807) : Ev (fun k => ZF.f k l) (madeL l,madeE l) := by
 unfold ZF.f;refine Ev.bind (rrects l hl) ?_;refine Ev.val (fun k => ?_);unfold madeL madeE
 cases hb : badL l with
 | true => rfl
 | false =>
  rw [if_neg (show ¬ (false = true) by decide),if_pos rfl,if_neg (show ¬ (false = true) by decide),if_neg (show ¬ (false = true) by decide)]
  by_cases h2 : 200 < l.length
  · rw [if_pos (by omega),if_pos h2,if_pos h2]
  · rw [if_neg (by omega),if_neg h2,if_neg h2]
theorem JD {B : Nat} : ∀ (l acc : List Bd),(∀ b ∈ acc,b.2.2.length ≤ B) → (∀ x ∈ l,x.2.2.length ≤ B) → ∀ b ∈ l.foldl (fun acc x => addP acc x.1 x.2.1 x.2.2) acc,b.2.2.length ≤ B
 | [],acc,h,_ => h
 | x :: l,acc,h,hl => by
  rw [List.foldl_cons];refine JD l _ ?_ (fun y hy => hl y (by simp [hy]));intro b hb;have hx := hl x (by simp)
  cases acc with
  | nil => simp [addP] at hb;subst hb;exact hx
  | cons q r =>
   obtain ⟨a,e,t⟩ := q
   by_cases hc : e = x.1 ∧ t = x.2.2
   · rw [show addP ((a,e,t) :: r) x.1 x.2.1 x.2.2 = (a,x.2.1,t) :: r from if_pos hc] at hb
     rcases List.mem_cons.mp hb with rfl | hb
     · exact h (a,e,t) (by simp)
     · exact h b (by simp [hb])
   · rw [show addP ((a,e,t) :: r) x.1 x.2.1 x.2.2 = (x.1,x.2.1,x.2.2) :: (a,e,t) :: r from if_neg hc] at hb
     rcases List.mem_cons.mp hb with rfl | hb
     · exact hx
     · exact h b hb
theorem Vi (is : Bool → Bool → Bool) (a b : List S43) (ha : a.length ≤ 200) (hb : b.length ≤ 200) : (outOf is a b).length ≤ 9223372036854775807 := by
 have hx : (edgX (a ++ b)).length ≤ 800 := by have := Qp (fun r => r.f0) (fun r => wrap64 (r.f0 + r.f2)) (a ++ b);rw [List.length_append] at this;show (edgesL _ _ _).length ≤ 800;omega
 have hy : (edgY (a ++ b)).length ≤ 800 := by have := Qp (fun r => r.f1) (fun r => wrap64 (r.f1 + r.f3)) (a ++ b);rw [List.length_append] at this;show (edgesL _ _ _).length ≤ 800;omega
 unfold outOf;generalize edgX (a ++ b) = xs at hx;generalize edgY (a ++ b) = ys at hy
 have h1 : ∀ x ∈ bandsOf is a b xs ys,x.2.2.length ≤ 800 := by
  intro x hxm;unfold bandsOf bdN at hxm;obtain ⟨i,_,rfl⟩ := List.mem_map.mp hxm;show (spansOf is a b xs _).length ≤ 800;unfold spansOf;rw [List.length_reverse];have := QT (fun x => is (covL a x (ys.getD i 0)) (covL b x (ys.getD i 0))) xs (xs.length - 1);omega
 have h2 : (bandsOf is a b xs ys).length ≤ 800 := by unfold bandsOf;rw [Vd];omega
 have h3 := YD (bandsOf is a b xs ys);have h4 := JD (bandsOf is a b xs ys) [] (by intro b hb;cases hb) h1;have h5 := QY (B := 800) (accP (bandsOf is a b xs ys)).reverse (fun y hy => h4 y (by simpa [accP] using hy));rw [List.length_reverse] at h5;have h6 : (accP (bandsOf is a b xs ys)).length * 800 ≤ 800 * 800 := Nat.mul_le_mul_right _ (by omega);omega
theorem rjoined (a b : List S43) (hla : a.length ≤ 9223372036854775807) (hlb : b.length ≤ 9223372036854775807) (how : Int) (hh : how = 1 ∨ how = 2 ∨ how = 3) : Ev (fun k => Zm.f k a b how) (joinL (isH how) a b,joinE (isH how) a b) := by
 have h1 : Ev (fun k => Zm.j0 k a b how true) (([] : List S43),(1 : Int)) := Ev.pure (fun k => by simp only [Zm.j0,if_true]);unfold Zm.f joinL joinE;refine Ev.bind (Q9 a hla) ?_
 cases ha : validB a with
 | false => exact Ev.congr (fun k => by rw [if_neg (show ¬ (false = true) by decide)]) h1
 | true =>
  refine Ev.congr (fun k => if_pos rfl) ?_;refine Ev.bind (Q9 b hlb) ?_
  cases hb : validB b with
  | false => exact h1
  | true =>
   have va := (Xr a).mp ha;have vb := (Xr b).mp hb;have ho : outOf (isH how) a b = full (TR (isH how) a b) 40000 := Qh (Ji how) va.2.1 vb.2.1;refine Ev.step (h := fun k => (Zb.f k a b how).bind fun t376 => ((ZF.f k t376).bind fun bt379 => (some (bt379.1,bt379.2)))) (fun k => by simp only [Zm.j0];rw [if_neg (by decide)]) ?_;refine Ev.bind (rcanonical a b (by have := va.1;omega) (by have := vb.1;omega) va.2.1 vb.2.1 how hh) ?_;rw [if_pos rfl,if_pos rfl,if_pos rfl,if_pos rfl];have hln := Vi (isH how) a b va.1 vb.1;rw [← ho];clear ho;generalize outOf (isH how) a b = m at hln;exact Ev.bind (rtold m hln) (Ev.val (fun k => rfl))
end Go.Proofs.Ythbajahklnpkcaa.PA

namespace Go.Proofs.Ythbajahklnpkcaa.PA
open Go.RowKit Go.Proofs.YthbajahklnpkcaaW.PrintWords Go.Proofs.YthbajahklnpkcaaW.PrintLast Go.Proofs.YthbajahklnpkcaaW.PrintMore
attribute [local go_sem] ZN ZO ZZ Xb ZI ZJ ZQ ZP
set_option linter.unusedVariables false
set_option linter.unusedSimpArgs false
end Go.Proofs.Ythbajahklnpkcaa.PA

namespace Go.Proofs.Ythbajahklnpkcaa.PA
open Go.RowKit Go.Proofs.YthbajahklnpkcaaW.PrintWords Go.Proofs.YthbajahklnpkcaaW.PrintLast Go.Proofs.YthbajahklnpkcaaW.PrintMore
attribute [local go_sem] ZN ZO ZZ Xb ZI ZJ ZQ ZP
set_option linter.unusedVariables false
set_option linter.unusedSimpArgs false
end Go.Proofs.Ythbajahklnpkcaa.PA

namespace Go.Proofs.Ythbajahklnpkcaa.PA
open Go.RowKit Go.Proofs.YthbajahklnpkcaaW.PrintWords Go.Proofs.YthbajahklnpkcaaW.PrintLast Go.Proofs.YthbajahklnpkcaaW.PrintMore
attribute [local go_sem] ZN ZO ZZ Xb ZI ZJ ZQ ZP
set_option linter.unusedVariables false
set_option linter.unusedSimpArgs false
end Go.Proofs.Ythbajahklnpkcaa.PA

namespace Go.Proofs.Ythbajahklnpkcaa.PA
open Go.RowKit Go.Proofs.YthbajahklnpkcaaW.PrintWords Go.Proofs.YthbajahklnpkcaaW.PrintLast Go.Proofs.YthbajahklnpkcaaW.PrintMore
attribute [local go_sem] ZN ZO ZZ Xb ZI ZJ ZQ ZP
set_option linter.unusedVariables false
set_option linter.unusedSimpArgs false
mutual
def Ze.j0 : Nat → List (S43) → List (S43) → List (S43) → Int → Bool → Option (Bool)
 | 0,_,_,_,_,_ => none
 | k + 1,x0,x1,x5,x6,x43 => if x43 = true then (some false) else ((ZS.f x1 x0).bind fun bt397 => ((Zj.f k x5 bt397.1).bind fun t401 => (if t401 = true then (Ze.j1 k x0 x1 (x6 != bt397.2)) else (Ze.j1 k x0 x1 true))))
def Ze.j1 : Nat → List (S43) → List (S43) → Bool → Option (Bool)
 | 0,_,_,_ => none
 | k + 1,x0,x1,x58 => if x58 = true then (some false) else ((X4.f x0 x1).bind fun bt402 => ((Zm.f k x0 x1 2).bind fun bt406 => ((Zj.f k bt402.1 bt406.1).bind fun t410 => (if t410 = true then (Ze.j2 k x0 x1 bt402.1 bt402.2 (bt402.2 != bt406.2)) else (Ze.j2 k x0 x1 bt402.1 bt402.2 true)))))
def Ze.j2 : Nat → List (S43) → List (S43) → List (S43) → Int → Bool → Option (Bool)
 | 0,_,_,_,_,_ => none
 | k + 1,x0,x1,x5,x6,x79 => if x79 = true then (some false) else ((X4.f x1 x0).bind fun bt411 => ((Zj.f k x5 bt411.1).bind fun t415 => (if t415 = true then (Ze.j3 k x0 x1 x5 bt411.2 (x6 != bt411.2)) else (Ze.j3 k x0 x1 x5 bt411.2 true))))
def Ze.j3 : Nat → List (S43) → List (S43) → List (S43) → Int → Bool → Option (Bool)
 | 0,_,_,_,_,_ => none
 | k + 1,x0,x1,x5,x10,x94 => if x94 = true then (some false) else ((XG.f x0 x1).bind fun bt416 => ((Zm.f k x0 x1 3).bind fun bt420 => ((Zj.f k bt416.1 bt420.1).bind fun t424 => (if t424 = true then (Ze.j4 k x0 x5 bt416.2 x10 bt416.1 (bt416.2 != bt420.2)) else (Ze.j4 k x0 x5 bt416.2 x10 bt416.1 true)))))
def Ze.j4 : Nat → List (S43) → List (S43) → Int → Int → List (S43) → Bool → Option (Bool)
 | 0,_,_,_,_,_,_ => none
 | k + 1,x0,x5,x6,x10,x11,x115 => if x115 = true then (some false) else (if x6 = 0 then (Ze.j5 k x0 x5 x11 (x10 != 0)) else (Ze.j5 k x0 x5 x11 true))
def Ze.j5 : Nat → List (S43) → List (S43) → List (S43) → Bool → Option (Bool)
 | 0,_,_,_,_ => none
 | k + 1,x0,x5,x11,x121 => if x121 = true then (some true) else ((ZS.f x5 x11).bind fun bt425 => (if bt425.2 = 0 then ((Z4.f k x5).bind fun bt429 => ((Z4.f k x11).bind fun bt431 => ((Z4.f k x0).bind fun bt433 => (if bt433.2 = 0 then (if (wrap64 (bt429.1 + bt431.1)) = bt433.1 then ((Zj.f k bt425.1 x0).bind fun t435 => (some t435)) else (some false)) else (some false))))) else (if bt425.2 = 4 then (some true) else (some (bt425.2 == 7)))))
end
def Ze.f (k : Nat) (l0 : List (S43)) (l1 : List (S43)) : Option (Bool) := (Xd.f).bind fun t386 => (if t386 = true then ((ZY.f l0 l1).bind fun t387 => (if t387 = true then (some true) else ((ZS.f l0 l1).bind fun bt388 => ((Zm.f k l0 l1 1).bind fun bt392 => ((Zj.f k bt388.1 bt392.1).bind fun t396 => (if t396 = true then (Ze.j0 k l0 l1 bt388.1 bt388.2 (bt388.2 != bt392.2)) else (Ze.j0 k l0 l1 bt388.1 bt388.2 true))))))) else (some false))
theorem Ze.Xo : ∀ k,(∀ y0 y1 y2 y3 y4,LeO (Ze.j0 k y0 y1 y2 y3 y4) (Ze.j0 (k + 1) y0 y1 y2 y3 y4)) ∧ (∀ y0 y1 y2,LeO (Ze.j1 k y0 y1 y2) (Ze.j1 (k + 1) y0 y1 y2)) ∧ (∀ y0 y1 y2 y3 y4,LeO (Ze.j2 k y0 y1 y2 y3 y4) (Ze.j2 (k + 1) y0 y1 y2 y3 y4)) ∧ (∀ y0 y1 y2 y3 y4,LeO (Ze.j3 k y0 y1 y2 y3 y4) (Ze.j3 (k + 1) y0 y1 y2 y3 y4)) ∧ (∀ y0 y1 y2 y3 y4 y5,LeO (Ze.j4 k y0 y1 y2 y3 y4 y5) (Ze.j4 (k + 1) y0 y1 y2 y3 y4 y5)) ∧ (∀ y0 y1 y2 y3,LeO (Ze.j5 k y0 y1 y2 y3) (Ze.j5 (k + 1) y0 y1 y2 y3))
 | 0 => ⟨fun _ _ _ _ _ r h => by simp [Ze.j0] at h,fun _ _ _ r h => by simp [Ze.j1] at h,fun _ _ _ _ _ r h => by simp [Ze.j2] at h,fun _ _ _ _ _ r h => by simp [Ze.j3] at h,fun _ _ _ _ _ _ r h => by simp [Ze.j4] at h,fun _ _ _ _ r h => by simp [Ze.j5] at h⟩
 | k + 1 => by
  obtain ⟨ih0,ih1,ih2,ih3,ih4,ih5⟩ := Ze.Xo k;refine ⟨?_,?_,?_,?_,?_,?_⟩
  · intro y0 y1 y2 y3 y4
    unfold Ze.j0
    repeat' first
    | (with_reducible exact ih0 _ _ _ _ _)
    | (with_reducible exact ih1 _ _ _)
    | (with_reducible exact ih2 _ _ _ _ _)
    | (with_reducible exact ih3 _ _ _ _ _)
    | (with_reducible exact ih4 _ _ _ _ _ _)
    | (with_reducible exact ih5 _ _ _ _)
    | (with_reducible exact Zm.mono _ _ _ _)
    | (with_reducible exact Zj.mono _ _ _)
    | (with_reducible exact Z4.mono _ _)
    | (with_reducible exact LeO.refl _)
    | (with_reducible exact LeO.none _)
    | (with_reducible refine LeO.ite ?_ ?_)
    | (with_reducible refine LeO.bind ?_ (fun _ => ?_))
    | exact ih0 _ _ _ _ _
    | exact ih1 _ _ _
    | exact ih2 _ _ _ _ _
    | exact ih3 _ _ _ _ _
    | exact ih4 _ _ _ _ _ _
    | exact ih5 _ _ _ _
    | exact Zm.mono _ _ _ _
    | exact Zj.mono _ _ _
    | exact Z4.mono _ _
    | exact LeO.none _
    | refine LeO.ite ?_ ?_
    | refine LeO.bind ?_ (fun _ => ?_)
  · intro y0 y1 y2
    unfold Ze.j1
    repeat' first
    | (with_reducible exact ih0 _ _ _ _ _)
    | (with_reducible exact ih1 _ _ _)
    | (with_reducible exact ih2 _ _ _ _ _)
    | (with_reducible exact ih3 _ _ _ _ _)
    | (with_reducible exact ih4 _ _ _ _ _ _)
    | (with_reducible exact ih5 _ _ _ _)
    | (with_reducible exact Zm.mono _ _ _ _)
    | (with_reducible exact Zj.mono _ _ _)
    | (with_reducible exact Z4.mono _ _)
    | (with_reducible exact LeO.refl _)
    | (with_reducible exact LeO.none _)
    | (with_reducible refine LeO.ite ?_ ?_)
    | (with_reducible refine LeO.bind ?_ (fun _ => ?_))
    | exact ih0 _ _ _ _ _
    | exact ih1 _ _ _
    | exact ih2 _ _ _ _ _
    | exact ih3 _ _ _ _ _
    | exact ih4 _ _ _ _ _ _
    | exact ih5 _ _ _ _
    | exact Zm.mono _ _ _ _
    | exact Zj.mono _ _ _
    | exact Z4.mono _ _
    | exact LeO.none _
    | refine LeO.ite ?_ ?_
    | refine LeO.bind ?_ (fun _ => ?_)
  · intro y0 y1 y2 y3 y4
    unfold Ze.j2
    repeat' first
    | (with_reducible exact ih0 _ _ _ _ _)
    | (with_reducible exact ih1 _ _ _)
    | (with_reducible exact ih2 _ _ _ _ _)
    | (with_reducible exact ih3 _ _ _ _ _)
    | (with_reducible exact ih4 _ _ _ _ _ _)
    | (with_reducible exact ih5 _ _ _ _)
    | (with_reducible exact Zm.mono _ _ _ _)
    | (with_reducible exact Zj.mono _ _ _)
    | (with_reducible exact Z4.mono _ _)
    | (with_reducible exact LeO.refl _)
    | (with_reducible exact LeO.none _)
    | (with_reducible refine LeO.ite ?_ ?_)
    | (with_reducible refine LeO.bind ?_ (fun _ => ?_))
    | exact ih0 _ _ _ _ _
    | exact ih1 _ _ _
    | exact ih2 _ _ _ _ _
    | exact ih3 _ _ _ _ _
    | exact ih4 _ _ _ _ _ _
    | exact ih5 _ _ _ _
    | exact Zm.mono _ _ _ _
    | exact Zj.mono _ _ _
    | exact Z4.mono _ _
    | exact LeO.none _
    | refine LeO.ite ?_ ?_
    | refine LeO.bind ?_ (fun _ => ?_)
  · intro y0 y1 y2 y3 y4
    unfold Ze.j3
    repeat' first
    | (with_reducible exact ih0 _ _ _ _ _)
    | (with_reducible exact ih1 _ _ _)
    | (with_reducible exact ih2 _ _ _ _ _)
    | (with_reducible exact ih3 _ _ _ _ _)
    | (with_reducible exact ih4 _ _ _ _ _ _)
    | (with_reducible exact ih5 _ _ _ _)
    | (with_reducible exact Zm.mono _ _ _ _)
    | (with_reducible exact Zj.mono _ _ _)
    | (with_reducible exact Z4.mono _ _)
    | (with_reducible exact LeO.refl _)
    | (with_reducible exact LeO.none _)
    | (with_reducible refine LeO.ite ?_ ?_)
    | (with_reducible refine LeO.bind ?_ (fun _ => ?_))
    | exact ih0 _ _ _ _ _
    | exact ih1 _ _ _
    | exact ih2 _ _ _ _ _
    | exact ih3 _ _ _ _ _
    | exact ih4 _ _ _ _ _ _
    | exact ih5 _ _ _ _
    | exact Zm.mono _ _ _ _
    | exact Zj.mono _ _ _
    | exact Z4.mono _ _
    | exact LeO.none _
    | refine LeO.ite ?_ ?_
    | refine LeO.bind ?_ (fun _ => ?_)
  · intro y0 y1 y2 y3 y4 y5
    unfold Ze.j4
    repeat' first
    | (with_reducible exact ih0 _ _ _ _ _)
    | (with_reducible exact ih1 _ _ _)
    | (with_reducible exact ih2 _ _ _ _ _)
    | (with_reducible exact ih3 _ _ _ _ _)
    | (with_reducible exact ih4 _ _ _ _ _ _)
    | (with_reducible exact ih5 _ _ _ _)
    | (with_reducible exact Zm.mono _ _ _ _)
    | (with_reducible exact Zj.mono _ _ _)
    | (with_reducible exact Z4.mono _ _)
    | (with_reducible exact LeO.refl _)
    | (with_reducible exact LeO.none _)
    | (with_reducible refine LeO.ite ?_ ?_)
    | (with_reducible refine LeO.bind ?_ (fun _ => ?_))
    | exact ih0 _ _ _ _ _
    | exact ih1 _ _ _
    | exact ih2 _ _ _ _ _
    | exact ih3 _ _ _ _ _
    | exact ih4 _ _ _ _ _ _
    | exact ih5 _ _ _ _
    | exact Zm.mono _ _ _ _
    | exact Zj.mono _ _ _
    | exact Z4.mono _ _
    | exact LeO.none _
    | refine LeO.ite ?_ ?_
    | refine LeO.bind ?_ (fun _ => ?_)
  · intro y0 y1 y2 y3
    unfold Ze.j5
    repeat' first
    | (with_reducible exact ih0 _ _ _ _ _)
    | (with_reducible exact ih1 _ _ _)
    | (with_reducible exact ih2 _ _ _ _ _)
    | (with_reducible exact ih3 _ _ _ _ _)
    | (with_reducible exact ih4 _ _ _ _ _ _)
    | (with_reducible exact ih5 _ _ _ _)
    | (with_reducible exact Zm.mono _ _ _ _)
    | (with_reducible exact Zj.mono _ _ _)
    | (with_reducible exact Z4.mono _ _)
    | (with_reducible exact LeO.refl _)
    | (with_reducible exact LeO.none _)
    | (with_reducible refine LeO.ite ?_ ?_)
    | (with_reducible refine LeO.bind ?_ (fun _ => ?_))
    | exact ih0 _ _ _ _ _
    | exact ih1 _ _ _
    | exact ih2 _ _ _ _ _
    | exact ih3 _ _ _ _ _
    | exact ih4 _ _ _ _ _ _
    | exact ih5 _ _ _ _
    | exact Zm.mono _ _ _ _
    | exact Zj.mono _ _ _
    | exact Z4.mono _ _
    | exact LeO.none _
    | refine LeO.ite ?_ ?_
    | refine LeO.bind ?_ (fun _ => ?_)
theorem Ze.mono : ∀ a0 a1 k,LeO (Ze.f k a0 a1) (Ze.f (k + 1) a0 a1) := by
 intro a0 a1 k;obtain ⟨ih0,ih1,ih2,ih3,ih4,ih5⟩ := Ze.Xo k;unfold Ze.f
 repeat' first
  | (with_reducible exact ih0 _ _ _ _ _)
  | (with_reducible exact ih1 _ _ _)
  | (with_reducible exact ih2 _ _ _ _ _)
  | (with_reducible exact ih3 _ _ _ _ _)
  | (with_reducible exact ih4 _ _ _ _ _ _)
  | (with_reducible exact ih5 _ _ _ _)
  | (with_reducible exact Zm.mono _ _ _ _)
  | (with_reducible exact Zj.mono _ _ _)
  | (with_reducible exact Z4.mono _ _)
  | (with_reducible exact LeO.refl _)
  | (with_reducible exact LeO.none _)
  | (with_reducible refine LeO.ite ?_ ?_)
  | (with_reducible refine LeO.bind ?_ (fun _ => ?_))
  | exact ih0 _ _ _ _ _
  | exact ih1 _ _ _
  | exact ih2 _ _ _ _ _
  | exact ih3 _ _ _ _ _
  | exact ih4 _ _ _ _ _ _
  | exact ih5 _ _ _ _
  | exact Zm.mono _ _ _ _
  | exact Zj.mono _ _ _
  | exact Z4.mono _ _
  | exact LeO.none _
  | refine LeO.ite ?_ ?_
  | refine LeO.bind ?_ (fun _ => ?_)
set_option maxHeartbeats 8000000 in
set_option maxRecDepth 100000 in
theorem Ze.calls (k : Nat) (A0 : Option Addr) (c0 : Nat) (l0 : List (S43)) (A1 : Option Addr) (c1 : Nat) (l1 : List (S43)) (r : Bool) (w : World) (hr0 : Kd.C k43 w A0 l0.length l0) (hc0 : l0.length ≤ c0) (hr1 : Kd.C k43 w A1 l1.length l1) (hc1 : l1.length ≤ c1) (h : Ze.f k l0 l1 = some r) :
 Calls Try.prog 3 #[.slice A0 l0.length c0,.slice A1 l1.length c1] w fun e w' => e = .returned (.bool r) ∧ Below w.heap.size w w' := by
 have HR0 := Zc.mk hr0;have HC0 := Zc.mk hc0;clear hr0 hc0;have HR1 := Zc.mk hr1;have HC1 := Zc.mk hc1;clear hr1 hc1;have HB := Zc.mk (Below.refl w.heap.size w);have H : ((Xd.f).bind fun t386 => (if t386 = true then ((ZY.f l0 l1).bind fun t387 => (if t387 = true then (some true) else ((ZS.f l0 l1).bind fun bt388 => ((Zm.f k l0 l1 1).bind fun bt392 => ((Zj.f k bt388.1 bt392.1).bind fun t396 => (if t396 = true then (Ze.j0 k l0 l1 bt388.1 bt388.2 (bt388.2 != bt392.2)) else (Ze.j0 k l0 l1 bt388.1 bt388.2 true))))))) else (some false))) = some r := h;clear h;replace H := Option.bind_eq_some_iff.mp H;obtain ⟨t386,A30,H⟩ := H;replace H : (if t386 = true then ((ZY.f l0 l1).bind fun t387 => (if t387 = true then (some true) else ((ZS.f l0 l1).bind fun bt388 => ((Zm.f k l0 l1 1).bind fun bt392 => ((Zj.f k bt388.1 bt392.1).bind fun t396 => (if t396 = true then (Ze.j0 k l0 l1 bt388.1 bt388.2 (bt388.2 != bt392.2)) else (Ze.j0 k l0 l1 bt388.1 bt388.2 true))))))) else (some false)) = some r := H;have A3 := Zc.mk A30;clear A30
 by_cases c4 : t386 = true
 · subst c4
   have H1 : ((ZY.f l0 l1).bind fun t387 => (if t387 = true then (some true) else ((ZS.f l0 l1).bind fun bt388 => ((Zm.f k l0 l1 1).bind fun bt392 => ((Zj.f k bt388.1 bt392.1).bind fun t396 => (if t396 = true then (Ze.j0 k l0 l1 bt388.1 bt388.2 (bt388.2 != bt392.2)) else (Ze.j0 k l0 l1 bt388.1 bt388.2 true))))))) = some r := by rw [if_pos rfl] at H;exact H
   clear H;have H := H1;clear H1;replace H := Option.bind_eq_some_iff.mp H;obtain ⟨t387,A50,H⟩ := H;replace H : (if t387 = true then (some true) else ((ZS.f l0 l1).bind fun bt388 => ((Zm.f k l0 l1 1).bind fun bt392 => ((Zj.f k bt388.1 bt392.1).bind fun t396 => (if t396 = true then (Ze.j0 k l0 l1 bt388.1 bt388.2 (bt388.2 != bt392.2)) else (Ze.j0 k l0 l1 bt388.1 bt388.2 true)))))) = some r := H;have A5 := Zc.mk A50;clear A50
   by_cases c6 : t387 = true
   · subst c6
     have H1 : (some true) = some r := by rw [if_pos rfl] at H;exact H
     clear H;have H := H1;clear H1;obtain rfl := Option.some.inj H
     go_enter Try.func3,Try.ntmps3
     go_wp2_with (first | ((with_reducible refine Zx (f := 10) rfl ?_);refine ZD (some 18) rfl rfl Try.func10 (by kernel_rfl) rfl #[] rfl (by (try simp only [List.map_toArray,List.map_cons,List.map_nil]);first | done | rfl | (simp only [List.length_drop,List.length_take];rfl)) ?_;(with_reducible refine (Xd.calls  true _ A3.out).mono ?_);rintro e w7 ⟨rfl,hb⟩;refine ⟨_,rfl,?_⟩;have n0_ := Zc.mk (Zt (by repeat (first | (with_reducible first | exact HB.out | apply Zf | apply Za | apply Zd) | exact HB.out)) hb);clear HB;have HB := n0_;clear n0_;(try clear hb);(try clear hb2);(try clear hk);(try clear hi)) | ((with_reducible refine Zx (f := 11) rfl ?_);refine ZD (some 22) rfl rfl Try.func11 (by kernel_rfl) rfl #[.slice A0 l0.length c0,.slice A1 l1.length c1] rfl (by (try simp only [List.map_toArray,List.map_cons,List.map_nil]);first | done | rfl | (simp only [List.length_drop,List.length_take];rfl)) ?_;(with_reducible refine (ZY.calls _ _ l0 _ _ l1 true _ ?side1 ?side2 ?side3 ?side4 A5.out).mono ?_);(case side1 => repeat (first | exact (Kd.ZB HR0.out HB.out) | (with_reducible refine Kd.Z2 ?_ _) | (with_reducible refine Kd.Z3 ?_ _) | (with_reducible refine Kd.Z8 ?_)));(case side2 => exact HC0.out);(case side3 => repeat (first | exact (Kd.ZB HR1.out HB.out) | (with_reducible refine Kd.Z2 ?_ _) | (with_reducible refine Kd.Z3 ?_ _) | (with_reducible refine Kd.Z8 ?_)));(case side4 => exact HC1.out);rintro e w' ⟨rfl,⟨nd,rfl⟩⟩;refine ⟨_,rfl,?_⟩))
     go_ret;exact ⟨by first | rfl | (simp [Zw,Zv] <;> rfl) | (simp [*,Zw,Zv] <;> rfl),by repeat (first | (with_reducible first | exact HB.out | apply Zf | apply Za | apply Zd) | exact HB.out)⟩
   · replace c6 := Bool.eq_false_iff.mpr c6
     subst c6
     have H1 : ((ZS.f l0 l1).bind fun bt388 => ((Zm.f k l0 l1 1).bind fun bt392 => ((Zj.f k bt388.1 bt392.1).bind fun t396 => (if t396 = true then (Ze.j0 k l0 l1 bt388.1 bt388.2 (bt388.2 != bt392.2)) else (Ze.j0 k l0 l1 bt388.1 bt388.2 true))))) = some r := by rw [if_neg (show ¬ (false = true) by decide)] at H;exact H
     clear H;have H := H1;clear H1;replace H := Option.bind_eq_some_iff.mp H;obtain ⟨⟨t388,t389⟩,A80,H⟩ := H;replace H : ((Zm.f k l0 l1 1).bind fun bt392 => ((Zj.f k t388 bt392.1).bind fun t396 => (if t396 = true then (Ze.j0 k l0 l1 t388 t389 (t389 != bt392.2)) else (Ze.j0 k l0 l1 t388 t389 true)))) = some r := H;have A8 := Zc.mk A80;clear A80;replace H := Option.bind_eq_some_iff.mp H;obtain ⟨⟨t392,t393⟩,A90,H⟩ := H;replace H : ((Zj.f k t388 t392).bind fun t396 => (if t396 = true then (Ze.j0 k l0 l1 t388 t389 (t389 != t393)) else (Ze.j0 k l0 l1 t388 t389 true))) = some r := H;have A9 := Zc.mk A90;clear A90;have HC10 := Zc.mk H;clear H
     go_enter Try.func3,Try.ntmps3
     go_upto_region 7 with (first | ((with_reducible refine Zx (f := 10) rfl ?_);refine ZD (some 18) rfl rfl Try.func10 (by kernel_rfl) rfl #[] rfl (by (try simp only [List.map_toArray,List.map_cons,List.map_nil]);first | done | rfl | (simp only [List.length_drop,List.length_take];rfl)) ?_;(with_reducible refine (Xd.calls  true _ A3.out).mono ?_);rintro e w11 ⟨rfl,hb⟩;refine ⟨_,rfl,?_⟩;have n0_ := Zc.mk (Zt (by repeat (first | (with_reducible first | exact HB.out | apply Zf | apply Za | apply Zd) | exact HB.out)) hb);clear HB;have HB := n0_;clear n0_;(try clear hb);(try clear hb2);(try clear hk);(try clear hi)) | ((with_reducible refine Zx (f := 11) rfl ?_);refine ZD (some 22) rfl rfl Try.func11 (by kernel_rfl) rfl #[.slice A0 l0.length c0,.slice A1 l1.length c1] rfl (by (try simp only [List.map_toArray,List.map_cons,List.map_nil]);first | done | rfl | (simp only [List.length_drop,List.length_take];rfl)) ?_;(with_reducible refine (ZY.calls _ _ l0 _ _ l1 false _ ?side1 ?side2 ?side3 ?side4 A5.out).mono ?_);(case side1 => repeat (first | exact (Kd.ZB HR0.out HB.out) | (with_reducible refine Kd.Z2 ?_ _) | (with_reducible refine Kd.Z3 ?_ _) | (with_reducible refine Kd.Z8 ?_)));(case side2 => exact HC0.out);(case side3 => repeat (first | exact (Kd.ZB HR1.out HB.out) | (with_reducible refine Kd.Z2 ?_ _) | (with_reducible refine Kd.Z3 ?_ _) | (with_reducible refine Kd.Z8 ?_)));(case side4 => exact HC1.out);rintro e w' ⟨rfl,⟨nd,rfl⟩⟩;refine ⟨_,rfl,?_⟩) | ((with_reducible refine Zx (f := 12) rfl ?_);refine ZD (some 26) rfl rfl Try.func12 (by kernel_rfl) rfl #[.slice A0 l0.length c0,.slice A1 l1.length c1] rfl (by (try simp only [List.map_toArray,List.map_cons,List.map_nil]);first | done | rfl | (simp only [List.length_drop,List.length_take];rfl)) ?_;(with_reducible refine (ZS.calls _ _ l0 _ _ l1 t388 t389 _ ?side1 ?side2 ?side3 ?side4 A8.out).mono ?_);(case side1 => repeat (first | exact (Kd.ZB HR0.out (by repeat (first | (with_reducible first | exact HB.out | apply Zf | apply Za | apply Zd) | exact HB.out))) | (with_reducible refine Kd.Z2 ?_ _) | (with_reducible refine Kd.Z3 ?_ _) | (with_reducible refine Kd.Z8 ?_)));(case side2 => exact HC0.out);(case side3 => repeat (first | exact (Kd.ZB HR1.out (by repeat (first | (with_reducible first | exact HB.out | apply Zf | apply Za | apply Zd) | exact HB.out))) | (with_reducible refine Kd.Z2 ?_ _) | (with_reducible refine Kd.Z3 ?_ _) | (with_reducible refine Kd.Z8 ?_)));(case side4 => exact HC1.out);rintro e w12 ⟨v390,rfl,ho0,hb⟩;refine ⟨_,rfl,?_⟩;have n0_ := Zc.mk (Kd.ZM ho0 (Zs (by repeat (first | (with_reducible first | exact HB.out | apply Zf | apply Za | apply Zd) | exact HB.out))));have n1_ := Zc.mk (Zt (by repeat (first | (with_reducible first | exact HB.out | apply Zf | apply Za | apply Zd) | exact HB.out)) hb);clear HB;have HO391 := n0_;have HB := n1_;clear n0_ n1_;(try clear hb);(try clear hb2);(try clear hk);(try clear hi);(try clear ho0)) | ((with_reducible refine Zx (f := 13) rfl ?_);refine ZD (some 32) rfl rfl Try.func13 (by kernel_rfl) rfl #[.slice A0 l0.length c0,.slice A1 l1.length c1,.int .i64 1] rfl (by (try simp only [List.map_toArray,List.map_cons,List.map_nil]);first | done | rfl | (simp only [List.length_drop,List.length_take];rfl)) ?_;(with_reducible refine (Zm.calls k _ _ l0 _ _ l1 1 t392 t393 _ ?side1 ?side2 ?side3 ?side4 A9.out).mono ?_);(case side1 => repeat (first | exact (Kd.ZB HR0.out HB.out) | (with_reducible refine Kd.Z2 ?_ _) | (with_reducible refine Kd.Z3 ?_ _) | (with_reducible refine Kd.Z8 ?_)));(case side2 => exact HC0.out);(case side3 => repeat (first | exact (Kd.ZB HR1.out HB.out) | (with_reducible refine Kd.Z2 ?_ _) | (with_reducible refine Kd.Z3 ?_ _) | (with_reducible refine Kd.Z8 ?_)));(case side4 => exact HC1.out);rintro e w13 ⟨v394,rfl,ho0,hb⟩;refine ⟨_,rfl,?_⟩;have n0_ := Zc.mk (Kd.ZE (by (with_reducible repeat (first | apply Kd.Zi | apply Kd.Zh | apply Kd.Zk));exact HO391.out) (Kd.ZT ho0) hb);have n1_ := Zc.mk (Kd.ZM (Kd.ZV ho0 (Kd.R_lt (by (with_reducible repeat (first | apply Kd.Zi | apply Kd.Zh | apply Kd.Zk));exact HO391.out))) (Zs (by repeat (first | (with_reducible first | exact HB.out | apply Zf | apply Za | apply Zd) | exact HB.out))));have n2_ := Zc.mk (Zt (by repeat (first | (with_reducible first | exact HB.out | apply Zf | apply Za | apply Zd) | exact HB.out)) hb);clear HO391;clear HB;have HO391 := n0_;have HO395 := n1_;have HB := n2_;clear n0_ n1_ n2_;(try clear hb);(try clear hb2);(try clear hk);(try clear hi);(try clear ho0)))
     (try simp only [Act.put,V6,V7,V8])
     go_cut [43] (fun v43 wc => ∃ (kq : Nat) (x43_9 : Bool),v43 = .bool x43_9 ∧ Zc (Ze.j0 kq l0 l1 t388 t389 x43_9 = some r) ∧ Zc (kq ≤ k) ∧ Zc (Kd.R k43 43 wc w.heap.size (fun _ => True) v390 t388) ∧ Zc (Below w.heap.size w wc))
     case first =>
      have H := HC10.out;clear HC10;replace H := Option.bind_eq_some_iff.mp H;obtain ⟨t396,A140,H⟩ := H;replace H : (if t396 = true then (Ze.j0 k l0 l1 t388 t389 (t389 != t393)) else (Ze.j0 k l0 l1 t388 t389 true)) = some r := H;have A14 := Zc.mk A140;clear A140
      by_cases c15 : t396 = true
      · subst c15
        have H1 : (Ze.j0 k l0 l1 t388 t389 (t389 != t393)) = some r := by rw [if_pos rfl] at H;exact H
        clear H;have H := H1;clear H1;have H' := Zc.mk H;clear H;obtain ⟨Ao16,co16,eo16⟩ := Kd.Z9 HO391.out;subst eo16;obtain ⟨Ao17,co17,eo17⟩ := Kd.Z9 HO395.out;subst eo17
        go_wp2_with (first | ((with_reducible refine Zx (f := 14) rfl ?_);refine ZD (some 37) rfl rfl Try.func14 (by kernel_rfl) rfl #[.slice Ao16 t388.length co16,.slice Ao17 t392.length co17] rfl (by (try simp only [List.map_toArray,List.map_cons,List.map_nil]);first | done | rfl | (simp only [List.length_drop,List.length_take];rfl)) ?_;(with_reducible refine (Zj.calls k _ _ t388 _ _ t392 true _ ?side1 ?side2 ?side3 ?side4 A14.out).mono ?_);(case side1 => repeat (first | exact (Kd.Zr HO391.out).2.2 | (with_reducible refine Kd.Z2 ?_ _) | (with_reducible refine Kd.Z3 ?_ _) | (with_reducible refine Kd.Z8 ?_)));(case side2 => exact (Kd.Zr HO391.out).2.1);(case side3 => repeat (first | exact (Kd.Zr HO395.out).2.2 | (with_reducible refine Kd.Z2 ?_ _) | (with_reducible refine Kd.Z3 ?_ _) | (with_reducible refine Kd.Z8 ?_)));(case side4 => exact (Kd.Zr HO395.out).2.1);rintro e w' ⟨rfl,⟨nd,rfl⟩⟩;refine ⟨_,rfl,?_⟩))
        go_meet
        case rel => exact ⟨_,((t389 != t393)),(by first | rfl | (simp;done) | (simp [*];done)),H',⟨by first | omega | exact Nat.le_refl _⟩,⟨by (with_reducible repeat (first | apply Kd.Zi | apply Kd.Zh | apply Kd.Zk));exact Kd.ZA HO391.out (fun _ hk => trivial)⟩,⟨by repeat (first | (with_reducible first | exact HB.out | apply Zf | apply Za | apply Zd) | exact HB.out)⟩⟩
      · replace c15 := Bool.eq_false_iff.mpr c15
        subst c15
        have H1 : (Ze.j0 k l0 l1 t388 t389 true) = some r := by rw [if_neg (show ¬ (false = true) by decide)] at H;exact H
        clear H;have H := H1;clear H1;have H' := Zc.mk H;clear H;obtain ⟨Ao18,co18,eo18⟩ := Kd.Z9 HO391.out;subst eo18;obtain ⟨Ao19,co19,eo19⟩ := Kd.Z9 HO395.out;subst eo19
        go_wp2_with (first | ((with_reducible refine Zx (f := 14) rfl ?_);refine ZD (some 37) rfl rfl Try.func14 (by kernel_rfl) rfl #[.slice Ao18 t388.length co18,.slice Ao19 t392.length co19] rfl (by (try simp only [List.map_toArray,List.map_cons,List.map_nil]);first | done | rfl | (simp only [List.length_drop,List.length_take];rfl)) ?_;(with_reducible refine (Zj.calls k _ _ t388 _ _ t392 false _ ?side1 ?side2 ?side3 ?side4 A14.out).mono ?_);(case side1 => repeat (first | exact (Kd.Zr HO391.out).2.2 | (with_reducible refine Kd.Z2 ?_ _) | (with_reducible refine Kd.Z3 ?_ _) | (with_reducible refine Kd.Z8 ?_)));(case side2 => exact (Kd.Zr HO391.out).2.1);(case side3 => repeat (first | exact (Kd.Zr HO395.out).2.2 | (with_reducible refine Kd.Z2 ?_ _) | (with_reducible refine Kd.Z3 ?_ _) | (with_reducible refine Kd.Z8 ?_)));(case side4 => exact (Kd.Zr HO395.out).2.1);rintro e w' ⟨rfl,⟨nd,rfl⟩⟩;refine ⟨_,rfl,?_⟩))
        go_meet
        case rel => exact ⟨_,(true),(by first | rfl | (simp;done) | (simp [*];done)),H',⟨by first | omega | exact Nat.le_refl _⟩,⟨by (with_reducible repeat (first | apply Kd.Zi | apply Kd.Zh | apply Kd.Zk));exact Kd.ZA HO391.out (fun _ hk => trivial)⟩,⟨by repeat (first | (with_reducible first | exact HB.out | apply Zf | apply Za | apply Zd) | exact HB.out)⟩⟩
     case rest =>
      clear HC10
      (try clear c1); (try clear p2); (try clear c3); (try clear c4); (try clear c6); (try clear c10); (try clear c11); (try clear c12); (try clear c13); (try clear c14); (try clear c15)
      obtain ⟨kq,x43_9,rfl,HA,HJ9,HO_5,HB⟩ := hcut
      cases kq with
      | zero => exact absurd HA.out (by simp [Ze.j0])
      | succ kj9 =>
       have H := HA.out;clear HA;simp only [Ze.j0] at H
       by_cases c20 : x43_9 = true
       · subst c20
         have H1 : (some false) = some r := by rw [if_pos rfl] at H;exact H
         clear H;have H := H1;clear H1;obtain rfl := Option.some.inj H
         go_wp2
         go_ret;exact ⟨by first | rfl | (simp [Zw,Zv] <;> rfl) | (simp [*,Zw,Zv] <;> rfl),by repeat (first | (with_reducible first | exact HB.out | apply Zf | apply Za | apply Zd) | exact HB.out)⟩
       · replace c20 := Bool.eq_false_iff.mpr c20
         subst c20
         have H1 : ((ZS.f l1 l0).bind fun bt397 => ((Zj.f kj9 t388 bt397.1).bind fun t401 => (if t401 = true then (Ze.j1 kj9 l0 l1 (t389 != bt397.2)) else (Ze.j1 kj9 l0 l1 true)))) = some r := by rw [if_neg (show ¬ (false = true) by decide)] at H;exact H
         clear H;have H := H1;clear H1;replace H := Option.bind_eq_some_iff.mp H;obtain ⟨⟨t397,t398⟩,A210,H⟩ := H;replace H : ((Zj.f kj9 t388 t397).bind fun t401 => (if t401 = true then (Ze.j1 kj9 l0 l1 (t389 != t398)) else (Ze.j1 kj9 l0 l1 true))) = some r := H;have A21 := Zc.mk A210;clear A210;have HC22 := Zc.mk H;clear H
         go_upto_region 10 with (first | ((with_reducible refine Zx (f := 12) rfl ?_);refine ZD (some 47) rfl rfl Try.func12 (by kernel_rfl) rfl #[.slice A1 l1.length c1,.slice A0 l0.length c0] rfl (by (try simp only [List.map_toArray,List.map_cons,List.map_nil]);first | done | rfl | (simp only [List.length_drop,List.length_take];rfl)) ?_;(with_reducible refine (ZS.calls _ _ l1 _ _ l0 t397 t398 _ ?side1 ?side2 ?side3 ?side4 A21.out).mono ?_);(case side1 => repeat (first | exact (Kd.ZB HR1.out HB.out) | (with_reducible refine Kd.Z2 ?_ _) | (with_reducible refine Kd.Z3 ?_ _) | (with_reducible refine Kd.Z8 ?_)));(case side2 => exact HC1.out);(case side3 => repeat (first | exact (Kd.ZB HR0.out HB.out) | (with_reducible refine Kd.Z2 ?_ _) | (with_reducible refine Kd.Z3 ?_ _) | (with_reducible refine Kd.Z8 ?_)));(case side4 => exact HC0.out);rintro e w23 ⟨v399,rfl,ho0,hb⟩;refine ⟨_,rfl,?_⟩;have n0_ := Zc.mk (Kd.ZE (by (with_reducible repeat (first | apply Kd.Zi | apply Kd.Zh | apply Kd.Zk));exact HO_5.out) (Kd.ZT ho0) hb);have n1_ := Zc.mk (Kd.ZM (Kd.ZV ho0 (Kd.R_lt (by (with_reducible repeat (first | apply Kd.Zi | apply Kd.Zh | apply Kd.Zk));exact HO_5.out))) (Zs (by repeat (first | (with_reducible first | exact HB.out | apply Zf | apply Za | apply Zd) | exact HB.out))));have n2_ := Zc.mk (Zt (by repeat (first | (with_reducible first | exact HB.out | apply Zf | apply Za | apply Zd) | exact HB.out)) hb);clear HO_5;clear HB;have HO_5 := n0_;have HO400 := n1_;have HB := n2_;clear n0_ n1_ n2_;(try clear hb);(try clear hb2);(try clear hk);(try clear hi);(try clear ho0)))
         (try simp only [Act.put,V6,V7,V8])
         go_cut [58] (fun v58 wc => ∃ (kq : Nat) (x58_21 : Bool),v58 = .bool x58_21 ∧ Zc (Ze.j1 kq l0 l1 x58_21 = some r) ∧ Zc (kq ≤ kj9) ∧ Zc (Below w.heap.size w wc))
         case first =>
          have H := HC22.out;clear HC22;replace H := Option.bind_eq_some_iff.mp H;obtain ⟨t401,A240,H⟩ := H;replace H : (if t401 = true then (Ze.j1 kj9 l0 l1 (t389 != t398)) else (Ze.j1 kj9 l0 l1 true)) = some r := H;have A24 := Zc.mk A240;clear A240
          by_cases c25 : t401 = true
          · subst c25
            have H1 : (Ze.j1 kj9 l0 l1 (t389 != t398)) = some r := by rw [if_pos rfl] at H;exact H
            clear H;have H := H1;clear H1;have H' := Zc.mk H;clear H;obtain ⟨Ao26,co26,eo26⟩ := Kd.Z9 HO_5.out;subst eo26;obtain ⟨Ao27,co27,eo27⟩ := Kd.Z9 HO400.out;subst eo27
            go_wp2_with (first | ((with_reducible refine Zx (f := 14) rfl ?_);refine ZD (some 52) rfl rfl Try.func14 (by kernel_rfl) rfl #[.slice Ao26 t388.length co26,.slice Ao27 t397.length co27] rfl (by (try simp only [List.map_toArray,List.map_cons,List.map_nil]);first | done | rfl | (simp only [List.length_drop,List.length_take];rfl)) ?_;(with_reducible refine (Zj.calls kj9 _ _ t388 _ _ t397 true _ ?side1 ?side2 ?side3 ?side4 A24.out).mono ?_);(case side1 => repeat (first | exact (Kd.Zr HO_5.out).2.2 | (with_reducible refine Kd.Z2 ?_ _) | (with_reducible refine Kd.Z3 ?_ _) | (with_reducible refine Kd.Z8 ?_)));(case side2 => exact (Kd.Zr HO_5.out).2.1);(case side3 => repeat (first | exact (Kd.Zr HO400.out).2.2 | (with_reducible refine Kd.Z2 ?_ _) | (with_reducible refine Kd.Z3 ?_ _) | (with_reducible refine Kd.Z8 ?_)));(case side4 => exact (Kd.Zr HO400.out).2.1);rintro e w' ⟨rfl,⟨nd,rfl⟩⟩;refine ⟨_,rfl,?_⟩))
            go_meet
            case rel => exact ⟨_,((t389 != t398)),(by first | rfl | (simp;done) | (simp [*];done)),H',⟨by have := HJ9.out;first | omega | exact Nat.le_refl _⟩,⟨by repeat (first | (with_reducible first | exact HB.out | apply Zf | apply Za | apply Zd) | exact HB.out)⟩⟩
          · replace c25 := Bool.eq_false_iff.mpr c25
            subst c25
            have H1 : (Ze.j1 kj9 l0 l1 true) = some r := by rw [if_neg (show ¬ (false = true) by decide)] at H;exact H
            clear H;have H := H1;clear H1;have H' := Zc.mk H;clear H;obtain ⟨Ao28,co28,eo28⟩ := Kd.Z9 HO_5.out;subst eo28;obtain ⟨Ao29,co29,eo29⟩ := Kd.Z9 HO400.out;subst eo29
            go_wp2_with (first | ((with_reducible refine Zx (f := 14) rfl ?_);refine ZD (some 52) rfl rfl Try.func14 (by kernel_rfl) rfl #[.slice Ao28 t388.length co28,.slice Ao29 t397.length co29] rfl (by (try simp only [List.map_toArray,List.map_cons,List.map_nil]);first | done | rfl | (simp only [List.length_drop,List.length_take];rfl)) ?_;(with_reducible refine (Zj.calls kj9 _ _ t388 _ _ t397 false _ ?side1 ?side2 ?side3 ?side4 A24.out).mono ?_);(case side1 => repeat (first | exact (Kd.Zr HO_5.out).2.2 | (with_reducible refine Kd.Z2 ?_ _) | (with_reducible refine Kd.Z3 ?_ _) | (with_reducible refine Kd.Z8 ?_)));(case side2 => exact (Kd.Zr HO_5.out).2.1);(case side3 => repeat (first | exact (Kd.Zr HO400.out).2.2 | (with_reducible refine Kd.Z2 ?_ _) | (with_reducible refine Kd.Z3 ?_ _) | (with_reducible refine Kd.Z8 ?_)));(case side4 => exact (Kd.Zr HO400.out).2.1);rintro e w' ⟨rfl,⟨nd,rfl⟩⟩;refine ⟨_,rfl,?_⟩))
            go_meet
            case rel => exact ⟨_,(true),(by first | rfl | (simp;done) | (simp [*];done)),H',⟨by have := HJ9.out;first | omega | exact Nat.le_refl _⟩,⟨by repeat (first | (with_reducible first | exact HB.out | apply Zf | apply Za | apply Zd) | exact HB.out)⟩⟩
         case rest =>
          clear HC22
          (try clear c1); (try clear c2); (try clear p2); (try clear c3); (try clear c4); (try clear c6); (try clear c10); (try clear c11); (try clear c12); (try clear c13); (try clear c14); (try clear c15); (try clear c20); (try clear c25); (try clear p2)
          obtain ⟨kq,x58_21,rfl,HA,HJ21,HB⟩ := hcut
          cases kq with
          | zero => exact absurd HA.out (by simp [Ze.j1])
          | succ kj21 =>
           have H := HA.out;clear HA;simp only [Ze.j1] at H
           by_cases c30 : x58_21 = true
           · subst c30
             have H1 : (some false) = some r := by rw [if_pos rfl] at H;exact H
             clear H;have H := H1;clear H1;obtain rfl := Option.some.inj H
             go_wp2
             go_ret;exact ⟨by first | rfl | (simp [Zw,Zv] <;> rfl) | (simp [*,Zw,Zv] <;> rfl),by repeat (first | (with_reducible first | exact HB.out | apply Zf | apply Za | apply Zd) | exact HB.out)⟩
           · replace c30 := Bool.eq_false_iff.mpr c30
             subst c30
             have H1 : ((X4.f l0 l1).bind fun bt402 => ((Zm.f kj21 l0 l1 2).bind fun bt406 => ((Zj.f kj21 bt402.1 bt406.1).bind fun t410 => (if t410 = true then (Ze.j2 kj21 l0 l1 bt402.1 bt402.2 (bt402.2 != bt406.2)) else (Ze.j2 kj21 l0 l1 bt402.1 bt402.2 true))))) = some r := by rw [if_neg (show ¬ (false = true) by decide)] at H;exact H
             clear H;have H := H1;clear H1;replace H := Option.bind_eq_some_iff.mp H;obtain ⟨⟨t402,t403⟩,A310,H⟩ := H;replace H : ((Zm.f kj21 l0 l1 2).bind fun bt406 => ((Zj.f kj21 t402 bt406.1).bind fun t410 => (if t410 = true then (Ze.j2 kj21 l0 l1 t402 t403 (t403 != bt406.2)) else (Ze.j2 kj21 l0 l1 t402 t403 true)))) = some r := H;have A31 := Zc.mk A310;clear A310;replace H := Option.bind_eq_some_iff.mp H;obtain ⟨⟨t406,t407⟩,A320,H⟩ := H;replace H : ((Zj.f kj21 t402 t406).bind fun t410 => (if t410 = true then (Ze.j2 kj21 l0 l1 t402 t403 (t403 != t407)) else (Ze.j2 kj21 l0 l1 t402 t403 true))) = some r := H;have A32 := Zc.mk A320;clear A320;have HC33 := Zc.mk H;clear H
             go_upto_region 14 with (first | ((with_reducible refine Zx (f := 15) rfl ?_);refine ZD (some 62) rfl rfl Try.func15 (by kernel_rfl) rfl #[.slice A0 l0.length c0,.slice A1 l1.length c1] rfl (by (try simp only [List.map_toArray,List.map_cons,List.map_nil]);first | done | rfl | (simp only [List.length_drop,List.length_take];rfl)) ?_;(with_reducible refine (X4.calls _ _ l0 _ _ l1 t402 t403 _ ?side1 ?side2 ?side3 ?side4 A31.out).mono ?_);(case side1 => repeat (first | exact (Kd.ZB HR0.out HB.out) | (with_reducible refine Kd.Z2 ?_ _) | (with_reducible refine Kd.Z3 ?_ _) | (with_reducible refine Kd.Z8 ?_)));(case side2 => exact HC0.out);(case side3 => repeat (first | exact (Kd.ZB HR1.out HB.out) | (with_reducible refine Kd.Z2 ?_ _) | (with_reducible refine Kd.Z3 ?_ _) | (with_reducible refine Kd.Z8 ?_)));(case side4 => exact HC1.out);rintro e w34 ⟨v404,rfl,ho0,hb⟩;refine ⟨_,rfl,?_⟩;have n0_ := Zc.mk (Kd.ZM ho0 (Zs (by repeat (first | (with_reducible first | exact HB.out | apply Zf | apply Za | apply Zd) | exact HB.out))));have n1_ := Zc.mk (Zt (by repeat (first | (with_reducible first | exact HB.out | apply Zf | apply Za | apply Zd) | exact HB.out)) hb);clear HB;have HO405 := n0_;have HB := n1_;clear n0_ n1_;(try clear hb);(try clear hb2);(try clear hk);(try clear hi);(try clear ho0)) | ((with_reducible refine Zx (f := 13) rfl ?_);refine ZD (some 68) rfl rfl Try.func13 (by kernel_rfl) rfl #[.slice A0 l0.length c0,.slice A1 l1.length c1,.int .i64 2] rfl (by (try simp only [List.map_toArray,List.map_cons,List.map_nil]);first | done | rfl | (simp only [List.length_drop,List.length_take];rfl)) ?_;(with_reducible refine (Zm.calls kj21 _ _ l0 _ _ l1 2 t406 t407 _ ?side1 ?side2 ?side3 ?side4 A32.out).mono ?_);(case side1 => repeat (first | exact (Kd.ZB HR0.out HB.out) | (with_reducible refine Kd.Z2 ?_ _) | (with_reducible refine Kd.Z3 ?_ _) | (with_reducible refine Kd.Z8 ?_)));(case side2 => exact HC0.out);(case side3 => repeat (first | exact (Kd.ZB HR1.out HB.out) | (with_reducible refine Kd.Z2 ?_ _) | (with_reducible refine Kd.Z3 ?_ _) | (with_reducible refine Kd.Z8 ?_)));(case side4 => exact HC1.out);rintro e w35 ⟨v408,rfl,ho0,hb⟩;refine ⟨_,rfl,?_⟩;have n0_ := Zc.mk (Kd.ZE (by (with_reducible repeat (first | apply Kd.Zi | apply Kd.Zh | apply Kd.Zk));exact HO405.out) (Kd.ZT ho0) hb);have n1_ := Zc.mk (Kd.ZM (Kd.ZV ho0 (Kd.R_lt (by (with_reducible repeat (first | apply Kd.Zi | apply Kd.Zh | apply Kd.Zk));exact HO405.out))) (Zs (by repeat (first | (with_reducible first | exact HB.out | apply Zf | apply Za | apply Zd) | exact HB.out))));have n2_ := Zc.mk (Zt (by repeat (first | (with_reducible first | exact HB.out | apply Zf | apply Za | apply Zd) | exact HB.out)) hb);clear HO405;clear HB;have HO405 := n0_;have HO409 := n1_;have HB := n2_;clear n0_ n1_ n2_;(try clear hb);(try clear hb2);(try clear hk);(try clear hi);(try clear ho0)))
             (try simp only [Act.put,V6,V7,V8])
             go_cut [79] (fun v79 wc => ∃ (kq : Nat) (x79_32 : Bool),v79 = .bool x79_32 ∧ Zc (Ze.j2 kq l0 l1 t402 t403 x79_32 = some r) ∧ Zc (kq ≤ kj21) ∧ Zc (Kd.R k43 43 wc w.heap.size (fun _ => True) v404 t402) ∧ Zc (Below w.heap.size w wc))
             case first =>
              have H := HC33.out;clear HC33;replace H := Option.bind_eq_some_iff.mp H;obtain ⟨t410,A360,H⟩ := H;replace H : (if t410 = true then (Ze.j2 kj21 l0 l1 t402 t403 (t403 != t407)) else (Ze.j2 kj21 l0 l1 t402 t403 true)) = some r := H;have A36 := Zc.mk A360;clear A360
              by_cases c37 : t410 = true
              · subst c37
                have H1 : (Ze.j2 kj21 l0 l1 t402 t403 (t403 != t407)) = some r := by rw [if_pos rfl] at H;exact H
                clear H;have H := H1;clear H1;have H' := Zc.mk H;clear H;obtain ⟨Ao38,co38,eo38⟩ := Kd.Z9 HO405.out;subst eo38;obtain ⟨Ao39,co39,eo39⟩ := Kd.Z9 HO409.out;subst eo39
                go_wp2_with (first | ((with_reducible refine Zx (f := 14) rfl ?_);refine ZD (some 73) rfl rfl Try.func14 (by kernel_rfl) rfl #[.slice Ao38 t402.length co38,.slice Ao39 t406.length co39] rfl (by (try simp only [List.map_toArray,List.map_cons,List.map_nil]);first | done | rfl | (simp only [List.length_drop,List.length_take];rfl)) ?_;(with_reducible refine (Zj.calls kj21 _ _ t402 _ _ t406 true _ ?side1 ?side2 ?side3 ?side4 A36.out).mono ?_);(case side1 => repeat (first | exact (Kd.Zr HO405.out).2.2 | (with_reducible refine Kd.Z2 ?_ _) | (with_reducible refine Kd.Z3 ?_ _) | (with_reducible refine Kd.Z8 ?_)));(case side2 => exact (Kd.Zr HO405.out).2.1);(case side3 => repeat (first | exact (Kd.Zr HO409.out).2.2 | (with_reducible refine Kd.Z2 ?_ _) | (with_reducible refine Kd.Z3 ?_ _) | (with_reducible refine Kd.Z8 ?_)));(case side4 => exact (Kd.Zr HO409.out).2.1);rintro e w' ⟨rfl,⟨nd,rfl⟩⟩;refine ⟨_,rfl,?_⟩))
                go_meet
                case rel => exact ⟨_,((t403 != t407)),(by first | rfl | (simp;done) | (simp [*];done)),H',⟨by have := HJ9.out;have := HJ21.out;first | omega | exact Nat.le_refl _⟩,⟨by (with_reducible repeat (first | apply Kd.Zi | apply Kd.Zh | apply Kd.Zk));exact Kd.ZA HO405.out (fun _ hk => trivial)⟩,⟨by repeat (first | (with_reducible first | exact HB.out | apply Zf | apply Za | apply Zd) | exact HB.out)⟩⟩
              · replace c37 := Bool.eq_false_iff.mpr c37
                subst c37
                have H1 : (Ze.j2 kj21 l0 l1 t402 t403 true) = some r := by rw [if_neg (show ¬ (false = true) by decide)] at H;exact H
                clear H;have H := H1;clear H1;have H' := Zc.mk H;clear H;obtain ⟨Ao40,co40,eo40⟩ := Kd.Z9 HO405.out;subst eo40;obtain ⟨Ao41,co41,eo41⟩ := Kd.Z9 HO409.out;subst eo41
                go_wp2_with (first | ((with_reducible refine Zx (f := 14) rfl ?_);refine ZD (some 73) rfl rfl Try.func14 (by kernel_rfl) rfl #[.slice Ao40 t402.length co40,.slice Ao41 t406.length co41] rfl (by (try simp only [List.map_toArray,List.map_cons,List.map_nil]);first | done | rfl | (simp only [List.length_drop,List.length_take];rfl)) ?_;(with_reducible refine (Zj.calls kj21 _ _ t402 _ _ t406 false _ ?side1 ?side2 ?side3 ?side4 A36.out).mono ?_);(case side1 => repeat (first | exact (Kd.Zr HO405.out).2.2 | (with_reducible refine Kd.Z2 ?_ _) | (with_reducible refine Kd.Z3 ?_ _) | (with_reducible refine Kd.Z8 ?_)));(case side2 => exact (Kd.Zr HO405.out).2.1);(case side3 => repeat (first | exact (Kd.Zr HO409.out).2.2 | (with_reducible refine Kd.Z2 ?_ _) | (with_reducible refine Kd.Z3 ?_ _) | (with_reducible refine Kd.Z8 ?_)));(case side4 => exact (Kd.Zr HO409.out).2.1);rintro e w' ⟨rfl,⟨nd,rfl⟩⟩;refine ⟨_,rfl,?_⟩))
                go_meet
                case rel => exact ⟨_,(true),(by first | rfl | (simp;done) | (simp [*];done)),H',⟨by have := HJ9.out;have := HJ21.out;first | omega | exact Nat.le_refl _⟩,⟨by (with_reducible repeat (first | apply Kd.Zi | apply Kd.Zh | apply Kd.Zk));exact Kd.ZA HO405.out (fun _ hk => trivial)⟩,⟨by repeat (first | (with_reducible first | exact HB.out | apply Zf | apply Za | apply Zd) | exact HB.out)⟩⟩
             case rest =>
              clear HC33
              (try clear c1); (try clear c2); (try clear p2); (try clear c3); (try clear c4); (try clear c6); (try clear c10); (try clear c11); (try clear c12); (try clear c13); (try clear c14); (try clear c15); (try clear c20); (try clear c25); (try clear c30); (try clear c37); (try clear p2)
              obtain ⟨kq,x79_32,rfl,HA,HJ32,HO_5,HB⟩ := hcut
              cases kq with
              | zero => exact absurd HA.out (by simp [Ze.j2])
              | succ kj32 =>
               have H := HA.out;clear HA;simp only [Ze.j2] at H
               by_cases c42 : x79_32 = true
               · subst c42
                 have H1 : (some false) = some r := by rw [if_pos rfl] at H;exact H
                 clear H;have H := H1;clear H1;obtain rfl := Option.some.inj H
                 go_wp2
                 go_ret;exact ⟨by first | rfl | (simp [Zw,Zv] <;> rfl) | (simp [*,Zw,Zv] <;> rfl),by repeat (first | (with_reducible first | exact HB.out | apply Zf | apply Za | apply Zd) | exact HB.out)⟩
               · replace c42 := Bool.eq_false_iff.mpr c42
                 subst c42
                 have H1 : ((X4.f l1 l0).bind fun bt411 => ((Zj.f kj32 t402 bt411.1).bind fun t415 => (if t415 = true then (Ze.j3 kj32 l0 l1 t402 bt411.2 (t403 != bt411.2)) else (Ze.j3 kj32 l0 l1 t402 bt411.2 true)))) = some r := by rw [if_neg (show ¬ (false = true) by decide)] at H;exact H
                 clear H;have H := H1;clear H1;replace H := Option.bind_eq_some_iff.mp H;obtain ⟨⟨t411,t412⟩,A430,H⟩ := H;replace H : ((Zj.f kj32 t402 t411).bind fun t415 => (if t415 = true then (Ze.j3 kj32 l0 l1 t402 t412 (t403 != t412)) else (Ze.j3 kj32 l0 l1 t402 t412 true))) = some r := H;have A43 := Zc.mk A430;clear A430;have HC44 := Zc.mk H;clear H
                 go_upto_region 17 with (first | ((with_reducible refine Zx (f := 15) rfl ?_);refine ZD (some 83) rfl rfl Try.func15 (by kernel_rfl) rfl #[.slice A1 l1.length c1,.slice A0 l0.length c0] rfl (by (try simp only [List.map_toArray,List.map_cons,List.map_nil]);first | done | rfl | (simp only [List.length_drop,List.length_take];rfl)) ?_;(with_reducible refine (X4.calls _ _ l1 _ _ l0 t411 t412 _ ?side1 ?side2 ?side3 ?side4 A43.out).mono ?_);(case side1 => repeat (first | exact (Kd.ZB HR1.out HB.out) | (with_reducible refine Kd.Z2 ?_ _) | (with_reducible refine Kd.Z3 ?_ _) | (with_reducible refine Kd.Z8 ?_)));(case side2 => exact HC1.out);(case side3 => repeat (first | exact (Kd.ZB HR0.out HB.out) | (with_reducible refine Kd.Z2 ?_ _) | (with_reducible refine Kd.Z3 ?_ _) | (with_reducible refine Kd.Z8 ?_)));(case side4 => exact HC0.out);rintro e w45 ⟨v413,rfl,ho0,hb⟩;refine ⟨_,rfl,?_⟩;have n0_ := Zc.mk (Kd.ZE (by (with_reducible repeat (first | apply Kd.Zi | apply Kd.Zh | apply Kd.Zk));exact HO_5.out) (Kd.ZT ho0) hb);have n1_ := Zc.mk (Kd.ZM (Kd.ZV ho0 (Kd.R_lt (by (with_reducible repeat (first | apply Kd.Zi | apply Kd.Zh | apply Kd.Zk));exact HO_5.out))) (Zs (by repeat (first | (with_reducible first | exact HB.out | apply Zf | apply Za | apply Zd) | exact HB.out))));have n2_ := Zc.mk (Zt (by repeat (first | (with_reducible first | exact HB.out | apply Zf | apply Za | apply Zd) | exact HB.out)) hb);clear HO_5;clear HB;have HO_5 := n0_;have HO414 := n1_;have HB := n2_;clear n0_ n1_ n2_;(try clear hb);(try clear hb2);(try clear hk);(try clear hi);(try clear ho0)))
                 (try simp only [Act.put,V6,V7,V8])
                 go_cut [94] (fun v94 wc => ∃ (kq : Nat) (x94_43 : Bool),v94 = .bool x94_43 ∧ Zc (Ze.j3 kq l0 l1 t402 t412 x94_43 = some r) ∧ Zc (kq ≤ kj32) ∧ Zc (Kd.R k43 43 wc w.heap.size (fun _ => True) v404 t402) ∧ Zc (Below w.heap.size w wc))
                 case first =>
                  have H := HC44.out;clear HC44;replace H := Option.bind_eq_some_iff.mp H;obtain ⟨t415,A460,H⟩ := H;replace H : (if t415 = true then (Ze.j3 kj32 l0 l1 t402 t412 (t403 != t412)) else (Ze.j3 kj32 l0 l1 t402 t412 true)) = some r := H;have A46 := Zc.mk A460;clear A460
                  by_cases c47 : t415 = true
                  · subst c47
                    have H1 : (Ze.j3 kj32 l0 l1 t402 t412 (t403 != t412)) = some r := by rw [if_pos rfl] at H;exact H
                    clear H;have H := H1;clear H1;have H' := Zc.mk H;clear H;obtain ⟨Ao48,co48,eo48⟩ := Kd.Z9 HO_5.out;subst eo48;obtain ⟨Ao49,co49,eo49⟩ := Kd.Z9 HO414.out;subst eo49
                    go_wp2_with (first | ((with_reducible refine Zx (f := 14) rfl ?_);refine ZD (some 88) rfl rfl Try.func14 (by kernel_rfl) rfl #[.slice Ao48 t402.length co48,.slice Ao49 t411.length co49] rfl (by (try simp only [List.map_toArray,List.map_cons,List.map_nil]);first | done | rfl | (simp only [List.length_drop,List.length_take];rfl)) ?_;(with_reducible refine (Zj.calls kj32 _ _ t402 _ _ t411 true _ ?side1 ?side2 ?side3 ?side4 A46.out).mono ?_);(case side1 => repeat (first | exact (Kd.Zr HO_5.out).2.2 | (with_reducible refine Kd.Z2 ?_ _) | (with_reducible refine Kd.Z3 ?_ _) | (with_reducible refine Kd.Z8 ?_)));(case side2 => exact (Kd.Zr HO_5.out).2.1);(case side3 => repeat (first | exact (Kd.Zr HO414.out).2.2 | (with_reducible refine Kd.Z2 ?_ _) | (with_reducible refine Kd.Z3 ?_ _) | (with_reducible refine Kd.Z8 ?_)));(case side4 => exact (Kd.Zr HO414.out).2.1);rintro e w' ⟨rfl,⟨nd,rfl⟩⟩;refine ⟨_,rfl,?_⟩))
                    go_meet
                    case rel => exact ⟨_,((t403 != t412)),(by first | rfl | (simp;done) | (simp [*];done)),H',⟨by have := HJ9.out;have := HJ21.out;have := HJ32.out;first | omega | exact Nat.le_refl _⟩,⟨by (with_reducible repeat (first | apply Kd.Zi | apply Kd.Zh | apply Kd.Zk));exact Kd.ZA HO_5.out (fun _ hk => trivial)⟩,⟨by repeat (first | (with_reducible first | exact HB.out | apply Zf | apply Za | apply Zd) | exact HB.out)⟩⟩
                  · replace c47 := Bool.eq_false_iff.mpr c47
                    subst c47
                    have H1 : (Ze.j3 kj32 l0 l1 t402 t412 true) = some r := by rw [if_neg (show ¬ (false = true) by decide)] at H;exact H
                    clear H;have H := H1;clear H1;have H' := Zc.mk H;clear H;obtain ⟨Ao50,co50,eo50⟩ := Kd.Z9 HO_5.out;subst eo50;obtain ⟨Ao51,co51,eo51⟩ := Kd.Z9 HO414.out;subst eo51
                    go_wp2_with (first | ((with_reducible refine Zx (f := 14) rfl ?_);refine ZD (some 88) rfl rfl Try.func14 (by kernel_rfl) rfl #[.slice Ao50 t402.length co50,.slice Ao51 t411.length co51] rfl (by (try simp only [List.map_toArray,List.map_cons,List.map_nil]);first | done | rfl | (simp only [List.length_drop,List.length_take];rfl)) ?_;(with_reducible refine (Zj.calls kj32 _ _ t402 _ _ t411 false _ ?side1 ?side2 ?side3 ?side4 A46.out).mono ?_);(case side1 => repeat (first | exact (Kd.Zr HO_5.out).2.2 | (with_reducible refine Kd.Z2 ?_ _) | (with_reducible refine Kd.Z3 ?_ _) | (with_reducible refine Kd.Z8 ?_)));(case side2 => exact (Kd.Zr HO_5.out).2.1);(case side3 => repeat (first | exact (Kd.Zr HO414.out).2.2 | (with_reducible refine Kd.Z2 ?_ _) | (with_reducible refine Kd.Z3 ?_ _) | (with_reducible refine Kd.Z8 ?_)));(case side4 => exact (Kd.Zr HO414.out).2.1);rintro e w' ⟨rfl,⟨nd,rfl⟩⟩;refine ⟨_,rfl,?_⟩))
                    go_meet
                    case rel => exact ⟨_,(true),(by first | rfl | (simp;done) | (simp [*];done)),H',⟨by have := HJ9.out;have := HJ21.out;have := HJ32.out;first | omega | exact Nat.le_refl _⟩,⟨by (with_reducible repeat (first | apply Kd.Zi | apply Kd.Zh | apply Kd.Zk));exact Kd.ZA HO_5.out (fun _ hk => trivial)⟩,⟨by repeat (first | (with_reducible first | exact HB.out | apply Zf | apply Za | apply Zd) | exact HB.out)⟩⟩
                 case rest =>
                  clear HC44
                  (try clear c1); (try clear c2); (try clear p2); (try clear c3); (try clear c4); (try clear c6); (try clear c10); (try clear c11); (try clear c12); (try clear c13); (try clear c14); (try clear c15); (try clear c20); (try clear c25); (try clear c30); (try clear c37); (try clear c42); (try clear c47); (try clear p2)
                  obtain ⟨kq,x94_43,rfl,HA,HJ43,HO_5,HB⟩ := hcut
                  cases kq with
                  | zero => exact absurd HA.out (by simp [Ze.j3])
                  | succ kj43 =>
                   have H := HA.out;clear HA;simp only [Ze.j3] at H
                   by_cases c52 : x94_43 = true
                   · subst c52
                     have H1 : (some false) = some r := by rw [if_pos rfl] at H;exact H
                     clear H;have H := H1;clear H1;obtain rfl := Option.some.inj H
                     go_wp2
                     go_ret;exact ⟨by first | rfl | (simp [Zw,Zv] <;> rfl) | (simp [*,Zw,Zv] <;> rfl),by repeat (first | (with_reducible first | exact HB.out | apply Zf | apply Za | apply Zd) | exact HB.out)⟩
                   · replace c52 := Bool.eq_false_iff.mpr c52
                     subst c52
                     have H1 : ((XG.f l0 l1).bind fun bt416 => ((Zm.f kj43 l0 l1 3).bind fun bt420 => ((Zj.f kj43 bt416.1 bt420.1).bind fun t424 => (if t424 = true then (Ze.j4 kj43 l0 t402 bt416.2 t412 bt416.1 (bt416.2 != bt420.2)) else (Ze.j4 kj43 l0 t402 bt416.2 t412 bt416.1 true))))) = some r := by rw [if_neg (show ¬ (false = true) by decide)] at H;exact H
                     clear H;have H := H1;clear H1;replace H := Option.bind_eq_some_iff.mp H;obtain ⟨⟨t416,t417⟩,A530,H⟩ := H;replace H : ((Zm.f kj43 l0 l1 3).bind fun bt420 => ((Zj.f kj43 t416 bt420.1).bind fun t424 => (if t424 = true then (Ze.j4 kj43 l0 t402 t417 t412 t416 (t417 != bt420.2)) else (Ze.j4 kj43 l0 t402 t417 t412 t416 true)))) = some r := H;have A53 := Zc.mk A530;clear A530;replace H := Option.bind_eq_some_iff.mp H;obtain ⟨⟨t420,t421⟩,A540,H⟩ := H;replace H : ((Zj.f kj43 t416 t420).bind fun t424 => (if t424 = true then (Ze.j4 kj43 l0 t402 t417 t412 t416 (t417 != t421)) else (Ze.j4 kj43 l0 t402 t417 t412 t416 true))) = some r := H;have A54 := Zc.mk A540;clear A540;have HC55 := Zc.mk H;clear H
                     go_upto_region 21 with (first | ((with_reducible refine Zx (f := 16) rfl ?_);refine ZD (some 98) rfl rfl Try.func16 (by kernel_rfl) rfl #[.slice A0 l0.length c0,.slice A1 l1.length c1] rfl (by (try simp only [List.map_toArray,List.map_cons,List.map_nil]);first | done | rfl | (simp only [List.length_drop,List.length_take];rfl)) ?_;(with_reducible refine (XG.calls _ _ l0 _ _ l1 t416 t417 _ ?side1 ?side2 ?side3 ?side4 A53.out).mono ?_);(case side1 => repeat (first | exact (Kd.ZB HR0.out HB.out) | (with_reducible refine Kd.Z2 ?_ _) | (with_reducible refine Kd.Z3 ?_ _) | (with_reducible refine Kd.Z8 ?_)));(case side2 => exact HC0.out);(case side3 => repeat (first | exact (Kd.ZB HR1.out HB.out) | (with_reducible refine Kd.Z2 ?_ _) | (with_reducible refine Kd.Z3 ?_ _) | (with_reducible refine Kd.Z8 ?_)));(case side4 => exact HC1.out);rintro e w56 ⟨v418,rfl,ho0,hb⟩;refine ⟨_,rfl,?_⟩;have n0_ := Zc.mk (Kd.ZE (by (with_reducible repeat (first | apply Kd.Zi | apply Kd.Zh | apply Kd.Zk));exact HO_5.out) (Kd.ZT ho0) hb);have n1_ := Zc.mk (Kd.ZM (Kd.ZV ho0 (Kd.R_lt (by (with_reducible repeat (first | apply Kd.Zi | apply Kd.Zh | apply Kd.Zk));exact HO_5.out))) (Zs (by repeat (first | (with_reducible first | exact HB.out | apply Zf | apply Za | apply Zd) | exact HB.out))));have n2_ := Zc.mk (Zt (by repeat (first | (with_reducible first | exact HB.out | apply Zf | apply Za | apply Zd) | exact HB.out)) hb);clear HO_5;clear HB;have HO_5 := n0_;have HO419 := n1_;have HB := n2_;clear n0_ n1_ n2_;(try clear hb);(try clear hb2);(try clear hk);(try clear hi);(try clear ho0)) | ((with_reducible refine Zx (f := 13) rfl ?_);refine ZD (some 104) rfl rfl Try.func13 (by kernel_rfl) rfl #[.slice A0 l0.length c0,.slice A1 l1.length c1,.int .i64 3] rfl (by (try simp only [List.map_toArray,List.map_cons,List.map_nil]);first | done | rfl | (simp only [List.length_drop,List.length_take];rfl)) ?_;(with_reducible refine (Zm.calls kj43 _ _ l0 _ _ l1 3 t420 t421 _ ?side1 ?side2 ?side3 ?side4 A54.out).mono ?_);(case side1 => repeat (first | exact (Kd.ZB HR0.out HB.out) | (with_reducible refine Kd.Z2 ?_ _) | (with_reducible refine Kd.Z3 ?_ _) | (with_reducible refine Kd.Z8 ?_)));(case side2 => exact HC0.out);(case side3 => repeat (first | exact (Kd.ZB HR1.out HB.out) | (with_reducible refine Kd.Z2 ?_ _) | (with_reducible refine Kd.Z3 ?_ _) | (with_reducible refine Kd.Z8 ?_)));(case side4 => exact HC1.out);rintro e w57 ⟨v422,rfl,ho0,hb⟩;refine ⟨_,rfl,?_⟩;have n0_ := Zc.mk (Kd.ZE (by (with_reducible repeat (first | apply Kd.Zi | apply Kd.Zh | apply Kd.Zk));exact HO_5.out) (Kd.ZT ho0) hb);have n1_ := Zc.mk (Kd.ZE (by (with_reducible repeat (first | apply Kd.Zi | apply Kd.Zh | apply Kd.Zk));exact HO419.out) (Kd.ZT ho0) hb);have n2_ := Zc.mk (Kd.ZM (Kd.ZV (Kd.ZV ho0 (Kd.R_lt (by (with_reducible repeat (first | apply Kd.Zi | apply Kd.Zh | apply Kd.Zk));exact HO_5.out))) (Kd.R_lt (by (with_reducible repeat (first | apply Kd.Zi | apply Kd.Zh | apply Kd.Zk));exact HO419.out))) (Zs (by repeat (first | (with_reducible first | exact HB.out | apply Zf | apply Za | apply Zd) | exact HB.out))));have n3_ := Zc.mk (Zt (by repeat (first | (with_reducible first | exact HB.out | apply Zf | apply Za | apply Zd) | exact HB.out)) hb);clear HO_5;clear HO419;clear HB;have HO_5 := n0_;have HO419 := n1_;have HO423 := n2_;have HB := n3_;clear n0_ n1_ n2_ n3_;(try clear hb);(try clear hb2);(try clear hk);(try clear hi);(try clear ho0)))
                     (try simp only [Act.put,V6,V7,V8])
                     go_cut [115] (fun v115 wc => ∃ (kq : Nat) (x115_54 : Bool),v115 = .bool x115_54 ∧ Zc (Ze.j4 kq l0 t402 t417 t412 t416 x115_54 = some r) ∧ Zc (kq ≤ kj43) ∧ Zc (Kd.R k43 43 wc w.heap.size (fun k_ => some k_ ≠ (v418 : Value).ownBlock) v404 t402) ∧ Zc (Kd.R k43 43 wc w.heap.size (fun k_ => some k_ ≠ (v404 : Value).ownBlock) v418 t416) ∧ Zc (Below w.heap.size w wc))
                     case first =>
                      have H := HC55.out;clear HC55;replace H := Option.bind_eq_some_iff.mp H;obtain ⟨t424,A580,H⟩ := H;replace H : (if t424 = true then (Ze.j4 kj43 l0 t402 t417 t412 t416 (t417 != t421)) else (Ze.j4 kj43 l0 t402 t417 t412 t416 true)) = some r := H;have A58 := Zc.mk A580;clear A580
                      by_cases c59 : t424 = true
                      · subst c59
                        have H1 : (Ze.j4 kj43 l0 t402 t417 t412 t416 (t417 != t421)) = some r := by rw [if_pos rfl] at H;exact H
                        clear H;have H := H1;clear H1;have H' := Zc.mk H;clear H;obtain ⟨Ao60,co60,eo60⟩ := Kd.Z9 HO419.out;subst eo60;obtain ⟨Ao61,co61,eo61⟩ := Kd.Z9 HO423.out;subst eo61
                        go_wp2_with (first | ((with_reducible refine Zx (f := 14) rfl ?_);refine ZD (some 109) rfl rfl Try.func14 (by kernel_rfl) rfl #[.slice Ao60 t416.length co60,.slice Ao61 t420.length co61] rfl (by (try simp only [List.map_toArray,List.map_cons,List.map_nil]);first | done | rfl | (simp only [List.length_drop,List.length_take];rfl)) ?_;(with_reducible refine (Zj.calls kj43 _ _ t416 _ _ t420 true _ ?side1 ?side2 ?side3 ?side4 A58.out).mono ?_);(case side1 => repeat (first | exact (Kd.Zr HO419.out).2.2 | (with_reducible refine Kd.Z2 ?_ _) | (with_reducible refine Kd.Z3 ?_ _) | (with_reducible refine Kd.Z8 ?_)));(case side2 => exact (Kd.Zr HO419.out).2.1);(case side3 => repeat (first | exact (Kd.Zr HO423.out).2.2 | (with_reducible refine Kd.Z2 ?_ _) | (with_reducible refine Kd.Z3 ?_ _) | (with_reducible refine Kd.Z8 ?_)));(case side4 => exact (Kd.Zr HO423.out).2.1);rintro e w' ⟨rfl,⟨nd,rfl⟩⟩;refine ⟨_,rfl,?_⟩))
                        go_meet
                        case rel => exact ⟨_,((t417 != t421)),(by first | rfl | (simp;done) | (simp [*];done)),H',⟨by have := HJ9.out;have := HJ21.out;have := HJ32.out;have := HJ43.out;first | omega | exact Nat.le_refl _⟩,⟨by (with_reducible repeat (first | apply Kd.Zi | apply Kd.Zh | apply Kd.Zk));exact Kd.ZA HO_5.out (fun _ hk => hk.1.2)⟩,⟨by (with_reducible repeat (first | apply Kd.Zi | apply Kd.Zh | apply Kd.Zk));exact Kd.ZA HO419.out (fun _ hk => hk.1.2)⟩,⟨by repeat (first | (with_reducible first | exact HB.out | apply Zf | apply Za | apply Zd) | exact HB.out)⟩⟩
                      · replace c59 := Bool.eq_false_iff.mpr c59
                        subst c59
                        have H1 : (Ze.j4 kj43 l0 t402 t417 t412 t416 true) = some r := by rw [if_neg (show ¬ (false = true) by decide)] at H;exact H
                        clear H;have H := H1;clear H1;have H' := Zc.mk H;clear H;obtain ⟨Ao62,co62,eo62⟩ := Kd.Z9 HO419.out;subst eo62;obtain ⟨Ao63,co63,eo63⟩ := Kd.Z9 HO423.out;subst eo63
                        go_wp2_with (first | ((with_reducible refine Zx (f := 14) rfl ?_);refine ZD (some 109) rfl rfl Try.func14 (by kernel_rfl) rfl #[.slice Ao62 t416.length co62,.slice Ao63 t420.length co63] rfl (by (try simp only [List.map_toArray,List.map_cons,List.map_nil]);first | done | rfl | (simp only [List.length_drop,List.length_take];rfl)) ?_;(with_reducible refine (Zj.calls kj43 _ _ t416 _ _ t420 false _ ?side1 ?side2 ?side3 ?side4 A58.out).mono ?_);(case side1 => repeat (first | exact (Kd.Zr HO419.out).2.2 | (with_reducible refine Kd.Z2 ?_ _) | (with_reducible refine Kd.Z3 ?_ _) | (with_reducible refine Kd.Z8 ?_)));(case side2 => exact (Kd.Zr HO419.out).2.1);(case side3 => repeat (first | exact (Kd.Zr HO423.out).2.2 | (with_reducible refine Kd.Z2 ?_ _) | (with_reducible refine Kd.Z3 ?_ _) | (with_reducible refine Kd.Z8 ?_)));(case side4 => exact (Kd.Zr HO423.out).2.1);rintro e w' ⟨rfl,⟨nd,rfl⟩⟩;refine ⟨_,rfl,?_⟩))
                        go_meet
                        case rel => exact ⟨_,(true),(by first | rfl | (simp;done) | (simp [*];done)),H',⟨by have := HJ9.out;have := HJ21.out;have := HJ32.out;have := HJ43.out;first | omega | exact Nat.le_refl _⟩,⟨by (with_reducible repeat (first | apply Kd.Zi | apply Kd.Zh | apply Kd.Zk));exact Kd.ZA HO_5.out (fun _ hk => hk.1.2)⟩,⟨by (with_reducible repeat (first | apply Kd.Zi | apply Kd.Zh | apply Kd.Zk));exact Kd.ZA HO419.out (fun _ hk => hk.1.2)⟩,⟨by repeat (first | (with_reducible first | exact HB.out | apply Zf | apply Za | apply Zd) | exact HB.out)⟩⟩
                     case rest =>
                      clear HC55
                      (try clear c1); (try clear c2); (try clear p2); (try clear c3); (try clear c4); (try clear c5); (try clear c6); (try clear c10); (try clear c11); (try clear c12); (try clear c13); (try clear c14); (try clear c15); (try clear c16); (try clear c20); (try clear c25); (try clear c30); (try clear c37); (try clear c42); (try clear c47); (try clear c52); (try clear c59); (try clear p2)
                      obtain ⟨kq,x115_54,rfl,HA,HJ54,HO_5,HO_11,HB⟩ := hcut
                      cases kq with
                      | zero => exact absurd HA.out (by simp [Ze.j4])
                      | succ kj54 =>
                       have H := HA.out;clear HA;simp only [Ze.j4] at H
                       by_cases c64 : x115_54 = true
                       · subst c64
                         have H1 : (some false) = some r := by rw [if_pos rfl] at H;exact H
                         clear H;have H := H1;clear H1;obtain rfl := Option.some.inj H
                         go_wp2
                         go_ret;exact ⟨by first | rfl | (simp [Zw,Zv] <;> rfl) | (simp [*,Zw,Zv] <;> rfl),by repeat (first | (with_reducible first | exact HB.out | apply Zf | apply Za | apply Zd) | exact HB.out)⟩
                       · replace c64 := Bool.eq_false_iff.mpr c64
                         subst c64
                         have H1 : (if t417 = 0 then (Ze.j5 kj54 l0 t402 t416 (t412 != 0)) else (Ze.j5 kj54 l0 t402 t416 true)) = some r := by rw [if_neg (show ¬ (false = true) by decide)] at H;exact H
                         clear H;have H := H1;clear H1;have HC65 := Zc.mk H;clear H
                         go_upto_region 23 with (fail)
                         go_cut [121] (fun v121 wc => ∃ (kq : Nat) (x121_64 : Bool),v121 = .bool x121_64 ∧ Zc (Ze.j5 kq l0 t402 t416 x121_64 = some r) ∧ Zc (kq ≤ kj54) ∧ Zc (Kd.R k43 43 wc w.heap.size (fun k_ => some k_ ≠ (v418 : Value).ownBlock) v404 t402) ∧ Zc (Kd.R k43 43 wc w.heap.size (fun k_ => some k_ ≠ (v404 : Value).ownBlock) v418 t416) ∧ Zc (Below w.heap.size w wc))
                         case first =>
                          have H := HC65.out;clear HC65
                          by_cases c66 : t417 = 0
                          · rw [if_pos c66] at H
                            have c66b0 : (t417 == 0) = true := beq_iff_eq.mpr c66;have c66b1 : (t417 != 0) = false := bne_eq_false_iff_eq.mpr c66;clear c66
                            (first | rw [c66b0] | (simp only [i64_w,i32_w];rw [c66b0]) | skip)
                            have H' := Zc.mk H;clear H
                            go_wp2
                            go_meet
                            case rel => exact ⟨_,((t412 != 0)),(by first | rfl | (simp;done) | (simp [*];done)),H',⟨by have := HJ9.out;have := HJ21.out;have := HJ32.out;have := HJ43.out;have := HJ54.out;first | omega | exact Nat.le_refl _⟩,⟨by (with_reducible repeat (first | apply Kd.Zi | apply Kd.Zh | apply Kd.Zk));exact HO_5.out⟩,⟨by (with_reducible repeat (first | apply Kd.Zi | apply Kd.Zh | apply Kd.Zk));exact HO_11.out⟩,⟨by repeat (first | (with_reducible first | exact HB.out | apply Zf | apply Za | apply Zd) | exact HB.out)⟩⟩
                          · rw [if_neg c66] at H
                            have c66b0 : (t417 == 0) = false := beq_eq_false_iff_ne.mpr c66;have c66b1 : (t417 != 0) = true := bne_iff_ne.mpr c66
                            (first | rw [c66b0] | (simp only [i64_w,i32_w];rw [c66b0]) | skip)
                            have H' := Zc.mk H;clear H
                            go_wp2
                            go_meet
                            case rel => exact ⟨_,(true),(by first | rfl | (simp;done) | (simp [*];done)),H',⟨by have := HJ9.out;have := HJ21.out;have := HJ32.out;have := HJ43.out;have := HJ54.out;first | omega | exact Nat.le_refl _⟩,⟨by (with_reducible repeat (first | apply Kd.Zi | apply Kd.Zh | apply Kd.Zk));exact HO_5.out⟩,⟨by (with_reducible repeat (first | apply Kd.Zi | apply Kd.Zh | apply Kd.Zk));exact HO_11.out⟩,⟨by repeat (first | (with_reducible first | exact HB.out | apply Zf | apply Za | apply Zd) | exact HB.out)⟩⟩
                         case rest =>
                          clear HC65
                          (try clear c1); (try clear c2); (try clear p2); (try clear c3); (try clear c4); (try clear c5); (try clear c6); (try clear c10); (try clear c11); (try clear c12); (try clear c13); (try clear c14); (try clear c15); (try clear c16); (try clear c20); (try clear c25); (try clear c30); (try clear c37); (try clear c42); (try clear c47); (try clear c52); (try clear c59); (try clear c64); (try clear c66); (try clear c66b0); (try clear c66b1); (try clear p2)
                          obtain ⟨kq,x121_64,rfl,HA,HJ64,HO_5,HO_11,HB⟩ := hcut
                          cases kq with
                          | zero => exact absurd HA.out (by simp [Ze.j5])
                          | succ kj64 =>
                           have H := HA.out;clear HA;simp only [Ze.j5] at H
                           by_cases c67 : x121_64 = true
                           · subst c67
                             have H1 : (some true) = some r := by rw [if_pos rfl] at H;exact H
                             clear H;have H := H1;clear H1;obtain rfl := Option.some.inj H
                             go_wp2
                             go_ret;exact ⟨by first | rfl | (simp [Zw,Zv] <;> rfl) | (simp [*,Zw,Zv] <;> rfl),by repeat (first | (with_reducible first | exact HB.out | apply Zf | apply Za | apply Zd) | exact HB.out)⟩
                           · replace c67 := Bool.eq_false_iff.mpr c67
                             subst c67
                             have H1 : ((ZS.f t402 t416).bind fun bt425 => (if bt425.2 = 0 then ((Z4.f kj64 t402).bind fun bt429 => ((Z4.f kj64 t416).bind fun bt431 => ((Z4.f kj64 l0).bind fun bt433 => (if bt433.2 = 0 then (if (wrap64 (bt429.1 + bt431.1)) = bt433.1 then ((Zj.f kj64 bt425.1 l0).bind fun t435 => (some t435)) else (some false)) else (some false))))) else (if bt425.2 = 4 then (some true) else (some (bt425.2 == 7))))) = some r := by rw [if_neg (show ¬ (false = true) by decide)] at H;exact H
                             clear H;have H := H1;clear H1;replace H := Option.bind_eq_some_iff.mp H;obtain ⟨⟨t425,t426⟩,A680,H⟩ := H;replace H : (if t426 = 0 then ((Z4.f kj64 t402).bind fun bt429 => ((Z4.f kj64 t416).bind fun bt431 => ((Z4.f kj64 l0).bind fun bt433 => (if bt433.2 = 0 then (if (wrap64 (bt429.1 + bt431.1)) = bt433.1 then ((Zj.f kj64 t425 l0).bind fun t435 => (some t435)) else (some false)) else (some false))))) else (if t426 = 4 then (some true) else (some (t426 == 7)))) = some r := H;have A68 := Zc.mk A680;clear A680
                             by_cases c69 : t426 = 0
                             · rw [if_pos c69] at H
                               have c69b0 : (t426 == 0) = true := beq_iff_eq.mpr c69;have c69b1 : (t426 != 0) = false := bne_eq_false_iff_eq.mpr c69;clear c69;replace H := Option.bind_eq_some_iff.mp H;obtain ⟨⟨t429,t430⟩,A700,H⟩ := H;replace H : ((Z4.f kj64 t416).bind fun bt431 => ((Z4.f kj64 l0).bind fun bt433 => (if bt433.2 = 0 then (if (wrap64 (t429 + bt431.1)) = bt433.1 then ((Zj.f kj64 t425 l0).bind fun t435 => (some t435)) else (some false)) else (some false)))) = some r := H;have A70 := Zc.mk A700;clear A700;replace H := Option.bind_eq_some_iff.mp H;obtain ⟨⟨t431,t432⟩,A710,H⟩ := H;replace H : ((Z4.f kj64 l0).bind fun bt433 => (if bt433.2 = 0 then (if (wrap64 (t429 + t431)) = bt433.1 then ((Zj.f kj64 t425 l0).bind fun t435 => (some t435)) else (some false)) else (some false))) = some r := H;have A71 := Zc.mk A710;clear A710;replace H := Option.bind_eq_some_iff.mp H;obtain ⟨⟨t433,t434⟩,A720,H⟩ := H;replace H : (if t434 = 0 then (if (wrap64 (t429 + t431)) = t433 then ((Zj.f kj64 t425 l0).bind fun t435 => (some t435)) else (some false)) else (some false)) = some r := H;have A72 := Zc.mk A720;clear A720
                               by_cases c73 : t434 = 0
                               · rw [if_pos c73] at H
                                 have c73b0 : (t434 == 0) = true := beq_iff_eq.mpr c73;have c73b1 : (t434 != 0) = false := bne_eq_false_iff_eq.mpr c73;clear c73
                                 by_cases c74 : (wrap64 (t429 + t431)) = t433
                                 · rw [if_pos c74] at H
                                   have c74b0 : ((wrap64 (t429 + t431)) == t433) = true := beq_iff_eq.mpr c74;have c74b1 : ((wrap64 (t429 + t431)) != t433) = false := bne_eq_false_iff_eq.mpr c74;clear c74;replace H := Option.bind_eq_some_iff.mp H;obtain ⟨t435,A750,H⟩ := H;replace H : (some t435) = some r := H;have A75 := Zc.mk A750;clear A750;obtain rfl := Option.some.inj H;obtain ⟨Ao76,co76,eo76⟩ := Kd.Z9 HO_5.out;subst eo76;obtain ⟨Ao77,co77,eo77⟩ := Kd.Z9 HO_11.out;subst eo77
                                   go_wp2_with (first | ((with_reducible refine Zx (f := 12) rfl ?_);refine ZD (some 125) rfl rfl Try.func12 (by kernel_rfl) rfl #[.slice Ao76 t402.length co76,.slice Ao77 t416.length co77] rfl (by (try simp only [List.map_toArray,List.map_cons,List.map_nil]);first | done | rfl | (simp only [List.length_drop,List.length_take];rfl)) ?_;(with_reducible refine (ZS.calls _ _ t402 _ _ t416 t425 t426 _ ?side1 ?side2 ?side3 ?side4 A68.out).mono ?_);(case side1 => repeat (first | exact (Kd.Zr HO_5.out).2.2 | (with_reducible refine Kd.Z2 ?_ _) | (with_reducible refine Kd.Z3 ?_ _) | (with_reducible refine Kd.Z8 ?_)));(case side2 => exact (Kd.Zr HO_5.out).2.1);(case side3 => repeat (first | exact (Kd.Zr HO_11.out).2.2 | (with_reducible refine Kd.Z2 ?_ _) | (with_reducible refine Kd.Z3 ?_ _) | (with_reducible refine Kd.Z8 ?_)));(case side4 => exact (Kd.Zr HO_11.out).2.1);rintro e w78 ⟨v427,rfl,ho0,hb⟩;refine ⟨_,rfl,?_⟩;have n0_ := Zc.mk (Kd.ZE (by (with_reducible repeat (first | apply Kd.Zi | apply Kd.Zh | apply Kd.Zk));exact HO_5.out) (Kd.ZT ho0) hb);have n1_ := Zc.mk (Kd.ZE (by (with_reducible repeat (first | apply Kd.Zi | apply Kd.Zh | apply Kd.Zk));exact HO_11.out) (Kd.ZT ho0) hb);have n2_ := Zc.mk (Kd.ZM (Kd.ZV (Kd.ZV ho0 (Kd.R_lt (by (with_reducible repeat (first | apply Kd.Zi | apply Kd.Zh | apply Kd.Zk));exact HO_5.out))) (Kd.R_lt (by (with_reducible repeat (first | apply Kd.Zi | apply Kd.Zh | apply Kd.Zk));exact HO_11.out))) (Zs (by repeat (first | (with_reducible first | exact HB.out | apply Zf | apply Za | apply Zd) | exact HB.out))));have n3_ := Zc.mk (Zt (by repeat (first | (with_reducible first | exact HB.out | apply Zf | apply Za | apply Zd) | exact HB.out)) hb);clear HO_5;clear HO_11;clear HB;have HO_5 := n0_;have HO_11 := n1_;have HO428 := n2_;have HB := n3_;clear n0_ n1_ n2_ n3_;(try clear hb);(try clear hb2);(try clear hk);(try clear hi);(try clear ho0)) | ((with_reducible refine Zx (f := 17) rfl ?_);refine ZD (some 138) rfl rfl Try.func17 (by kernel_rfl) rfl #[.slice Ao76 t402.length co76] rfl (by (try simp only [List.map_toArray,List.map_cons,List.map_nil]);first | done | rfl | (simp only [List.length_drop,List.length_take];rfl)) ?_;(with_reducible refine (Z4.calls kj64 _ _ t402 t429 t430 _ ?side1 ?side2 A70.out).mono ?_);(case side1 => repeat (first | exact (Kd.Zr HO_5.out).2.2 | (with_reducible refine Kd.Z2 ?_ _) | (with_reducible refine Kd.Z3 ?_ _) | (with_reducible refine Kd.Z8 ?_)));(case side2 => exact (Kd.Zr HO_5.out).2.1);rintro e w79 ⟨rfl,hb⟩;refine ⟨_,rfl,?_⟩;have n0_ := Zc.mk (Kd.ZC (by (with_reducible repeat (first | apply Kd.Zi | apply Kd.Zh | apply Kd.Zk));exact HO_5.out) hb);have n1_ := Zc.mk (Kd.ZC (by (with_reducible repeat (first | apply Kd.Zi | apply Kd.Zh | apply Kd.Zk));exact HO_11.out) hb);have n2_ := Zc.mk (Kd.ZC (by (with_reducible repeat (first | apply Kd.Zi | apply Kd.Zh | apply Kd.Zk));exact HO428.out) hb);have n3_ := Zc.mk (Zt (by repeat (first | (with_reducible first | exact HB.out | apply Zf | apply Za | apply Zd) | exact HB.out)) hb);clear HO_5;clear HO_11;clear HO428;clear HB;have HO_5 := n0_;have HO_11 := n1_;have HO428 := n2_;have HB := n3_;clear n0_ n1_ n2_ n3_;(try clear hb);(try clear hb2);(try clear hk);(try clear hi)) | ((with_reducible refine Zx (f := 17) rfl ?_);refine ZD (some 143) rfl rfl Try.func17 (by kernel_rfl) rfl #[.slice Ao77 t416.length co77] rfl (by (try simp only [List.map_toArray,List.map_cons,List.map_nil]);first | done | rfl | (simp only [List.length_drop,List.length_take];rfl)) ?_;(with_reducible refine (Z4.calls kj64 _ _ t416 t431 t432 _ ?side1 ?side2 A71.out).mono ?_);(case side1 => repeat (first | exact (Kd.Zr HO_11.out).2.2 | (with_reducible refine Kd.Z2 ?_ _) | (with_reducible refine Kd.Z3 ?_ _) | (with_reducible refine Kd.Z8 ?_)));(case side2 => exact (Kd.Zr HO_11.out).2.1);rintro e w80 ⟨rfl,hb⟩;refine ⟨_,rfl,?_⟩;have n0_ := Zc.mk (Kd.ZC (by (with_reducible repeat (first | apply Kd.Zi | apply Kd.Zh | apply Kd.Zk));exact HO_5.out) hb);have n1_ := Zc.mk (Kd.ZC (by (with_reducible repeat (first | apply Kd.Zi | apply Kd.Zh | apply Kd.Zk));exact HO_11.out) hb);have n2_ := Zc.mk (Kd.ZC (by (with_reducible repeat (first | apply Kd.Zi | apply Kd.Zh | apply Kd.Zk));exact HO428.out) hb);have n3_ := Zc.mk (Zt (by repeat (first | (with_reducible first | exact HB.out | apply Zf | apply Za | apply Zd) | exact HB.out)) hb);clear HO_5;clear HO_11;clear HO428;clear HB;have HO_5 := n0_;have HO_11 := n1_;have HO428 := n2_;have HB := n3_;clear n0_ n1_ n2_ n3_;(try clear hb);(try clear hb2);(try clear hk);(try clear hi)) | ((with_reducible refine Zx (f := 17) rfl ?_);refine ZD (some 148) rfl rfl Try.func17 (by kernel_rfl) rfl #[.slice A0 l0.length c0] rfl (by (try simp only [List.map_toArray,List.map_cons,List.map_nil]);first | done | rfl | (simp only [List.length_drop,List.length_take];rfl)) ?_;(with_reducible refine (Z4.calls kj64 _ _ l0 t433 t434 _ ?side1 ?side2 A72.out).mono ?_);(case side1 => repeat (first | exact (Kd.ZB HR0.out HB.out) | (with_reducible refine Kd.Z2 ?_ _) | (with_reducible refine Kd.Z3 ?_ _) | (with_reducible refine Kd.Z8 ?_)));(case side2 => exact HC0.out);rintro e w81 ⟨rfl,hb⟩;refine ⟨_,rfl,?_⟩;have n0_ := Zc.mk (Kd.ZC (by (with_reducible repeat (first | apply Kd.Zi | apply Kd.Zh | apply Kd.Zk));exact HO_5.out) hb);have n1_ := Zc.mk (Kd.ZC (by (with_reducible repeat (first | apply Kd.Zi | apply Kd.Zh | apply Kd.Zk));exact HO_11.out) hb);have n2_ := Zc.mk (Kd.ZC (by (with_reducible repeat (first | apply Kd.Zi | apply Kd.Zh | apply Kd.Zk));exact HO428.out) hb);have n3_ := Zc.mk (Zt (by repeat (first | (with_reducible first | exact HB.out | apply Zf | apply Za | apply Zd) | exact HB.out)) hb);clear HO_5;clear HO_11;clear HO428;clear HB;have HO_5 := n0_;have HO_11 := n1_;have HO428 := n2_;have HB := n3_;clear n0_ n1_ n2_ n3_;(try clear hb);(try clear hb2);(try clear hk);(try clear hi);obtain ⟨Ao82,co82,eo82⟩ := Kd.Z9 HO428.out;subst eo82) | (go_at_call 14;(with_reducible refine (Zj.calls kj64 _ _ t425 _ _ l0 t435 _ ?side1 ?side2 ?side3 ?side4 A75.out).mono ?_);(case side1 => repeat (first | exact (Kd.Zr HO428.out).2.2 | (with_reducible refine Kd.Z2 ?_ _) | (with_reducible refine Kd.Z3 ?_ _) | (with_reducible refine Kd.Z8 ?_)));(case side2 => exact (Kd.Zr HO428.out).2.1);(case side3 => repeat (first | exact (Kd.ZB HR0.out HB.out) | (with_reducible refine Kd.Z2 ?_ _) | (with_reducible refine Kd.Z3 ?_ _) | (with_reducible refine Kd.Z8 ?_)));(case side4 => exact HC0.out);rintro e w' ⟨rfl,⟨nd,rfl⟩⟩))
                                   go_ret;exact ⟨by first | rfl | (simp [Zw,Zv] <;> rfl) | (simp [*,Zw,Zv] <;> rfl),by repeat (first | (with_reducible first | exact HB.out | apply Zf | apply Za | apply Zd) | exact HB.out)⟩
                                 · rw [if_neg c74] at H
                                   have c74b0 : ((wrap64 (t429 + t431)) == t433) = false := beq_eq_false_iff_ne.mpr c74;have c74b1 : ((wrap64 (t429 + t431)) != t433) = true := bne_iff_ne.mpr c74;obtain rfl := Option.some.inj H;obtain ⟨Ao83,co83,eo83⟩ := Kd.Z9 HO_5.out;subst eo83;obtain ⟨Ao84,co84,eo84⟩ := Kd.Z9 HO_11.out;subst eo84
                                   go_wp2_with (first | ((with_reducible refine Zx (f := 12) rfl ?_);refine ZD (some 125) rfl rfl Try.func12 (by kernel_rfl) rfl #[.slice Ao83 t402.length co83,.slice Ao84 t416.length co84] rfl (by (try simp only [List.map_toArray,List.map_cons,List.map_nil]);first | done | rfl | (simp only [List.length_drop,List.length_take];rfl)) ?_;(with_reducible refine (ZS.calls _ _ t402 _ _ t416 t425 t426 _ ?side1 ?side2 ?side3 ?side4 A68.out).mono ?_);(case side1 => repeat (first | exact (Kd.Zr HO_5.out).2.2 | (with_reducible refine Kd.Z2 ?_ _) | (with_reducible refine Kd.Z3 ?_ _) | (with_reducible refine Kd.Z8 ?_)));(case side2 => exact (Kd.Zr HO_5.out).2.1);(case side3 => repeat (first | exact (Kd.Zr HO_11.out).2.2 | (with_reducible refine Kd.Z2 ?_ _) | (with_reducible refine Kd.Z3 ?_ _) | (with_reducible refine Kd.Z8 ?_)));(case side4 => exact (Kd.Zr HO_11.out).2.1);rintro e w85 ⟨v427,rfl,ho0,hb⟩;refine ⟨_,rfl,?_⟩;have n0_ := Zc.mk (Kd.ZE (by (with_reducible repeat (first | apply Kd.Zi | apply Kd.Zh | apply Kd.Zk));exact HO_5.out) (Kd.ZT ho0) hb);have n1_ := Zc.mk (Kd.ZE (by (with_reducible repeat (first | apply Kd.Zi | apply Kd.Zh | apply Kd.Zk));exact HO_11.out) (Kd.ZT ho0) hb);have n2_ := Zc.mk (Kd.ZM (Kd.ZV (Kd.ZV ho0 (Kd.R_lt (by (with_reducible repeat (first | apply Kd.Zi | apply Kd.Zh | apply Kd.Zk));exact HO_5.out))) (Kd.R_lt (by (with_reducible repeat (first | apply Kd.Zi | apply Kd.Zh | apply Kd.Zk));exact HO_11.out))) (Zs (by repeat (first | (with_reducible first | exact HB.out | apply Zf | apply Za | apply Zd) | exact HB.out))));have n3_ := Zc.mk (Zt (by repeat (first | (with_reducible first | exact HB.out | apply Zf | apply Za | apply Zd) | exact HB.out)) hb);clear HO_5;clear HO_11;clear HB;have HO_5 := n0_;have HO_11 := n1_;have HO428 := n2_;have HB := n3_;clear n0_ n1_ n2_ n3_;(try clear hb);(try clear hb2);(try clear hk);(try clear hi);(try clear ho0)) | ((with_reducible refine Zx (f := 17) rfl ?_);refine ZD (some 138) rfl rfl Try.func17 (by kernel_rfl) rfl #[.slice Ao83 t402.length co83] rfl (by (try simp only [List.map_toArray,List.map_cons,List.map_nil]);first | done | rfl | (simp only [List.length_drop,List.length_take];rfl)) ?_;(with_reducible refine (Z4.calls kj64 _ _ t402 t429 t430 _ ?side1 ?side2 A70.out).mono ?_);(case side1 => repeat (first | exact (Kd.Zr HO_5.out).2.2 | (with_reducible refine Kd.Z2 ?_ _) | (with_reducible refine Kd.Z3 ?_ _) | (with_reducible refine Kd.Z8 ?_)));(case side2 => exact (Kd.Zr HO_5.out).2.1);rintro e w86 ⟨rfl,hb⟩;refine ⟨_,rfl,?_⟩;have n0_ := Zc.mk (Kd.ZC (by (with_reducible repeat (first | apply Kd.Zi | apply Kd.Zh | apply Kd.Zk));exact HO_5.out) hb);have n1_ := Zc.mk (Kd.ZC (by (with_reducible repeat (first | apply Kd.Zi | apply Kd.Zh | apply Kd.Zk));exact HO_11.out) hb);have n2_ := Zc.mk (Kd.ZC (by (with_reducible repeat (first | apply Kd.Zi | apply Kd.Zh | apply Kd.Zk));exact HO428.out) hb);have n3_ := Zc.mk (Zt (by repeat (first | (with_reducible first | exact HB.out | apply Zf | apply Za | apply Zd) | exact HB.out)) hb);clear HO_5;clear HO_11;clear HO428;clear HB;have HO_5 := n0_;have HO_11 := n1_;have HO428 := n2_;have HB := n3_;clear n0_ n1_ n2_ n3_;(try clear hb);(try clear hb2);(try clear hk);(try clear hi)) | ((with_reducible refine Zx (f := 17) rfl ?_);refine ZD (some 143) rfl rfl Try.func17 (by kernel_rfl) rfl #[.slice Ao84 t416.length co84] rfl (by (try simp only [List.map_toArray,List.map_cons,List.map_nil]);first | done | rfl | (simp only [List.length_drop,List.length_take];rfl)) ?_;(with_reducible refine (Z4.calls kj64 _ _ t416 t431 t432 _ ?side1 ?side2 A71.out).mono ?_);(case side1 => repeat (first | exact (Kd.Zr HO_11.out).2.2 | (with_reducible refine Kd.Z2 ?_ _) | (with_reducible refine Kd.Z3 ?_ _) | (with_reducible refine Kd.Z8 ?_)));(case side2 => exact (Kd.Zr HO_11.out).2.1);rintro e w87 ⟨rfl,hb⟩;refine ⟨_,rfl,?_⟩;have n0_ := Zc.mk (Kd.ZC (by (with_reducible repeat (first | apply Kd.Zi | apply Kd.Zh | apply Kd.Zk));exact HO_5.out) hb);have n1_ := Zc.mk (Kd.ZC (by (with_reducible repeat (first | apply Kd.Zi | apply Kd.Zh | apply Kd.Zk));exact HO_11.out) hb);have n2_ := Zc.mk (Kd.ZC (by (with_reducible repeat (first | apply Kd.Zi | apply Kd.Zh | apply Kd.Zk));exact HO428.out) hb);have n3_ := Zc.mk (Zt (by repeat (first | (with_reducible first | exact HB.out | apply Zf | apply Za | apply Zd) | exact HB.out)) hb);clear HO_5;clear HO_11;clear HO428;clear HB;have HO_5 := n0_;have HO_11 := n1_;have HO428 := n2_;have HB := n3_;clear n0_ n1_ n2_ n3_;(try clear hb);(try clear hb2);(try clear hk);(try clear hi)) | ((with_reducible refine Zx (f := 17) rfl ?_);refine ZD (some 148) rfl rfl Try.func17 (by kernel_rfl) rfl #[.slice A0 l0.length c0] rfl (by (try simp only [List.map_toArray,List.map_cons,List.map_nil]);first | done | rfl | (simp only [List.length_drop,List.length_take];rfl)) ?_;(with_reducible refine (Z4.calls kj64 _ _ l0 t433 t434 _ ?side1 ?side2 A72.out).mono ?_);(case side1 => repeat (first | exact (Kd.ZB HR0.out HB.out) | (with_reducible refine Kd.Z2 ?_ _) | (with_reducible refine Kd.Z3 ?_ _) | (with_reducible refine Kd.Z8 ?_)));(case side2 => exact HC0.out);rintro e w88 ⟨rfl,hb⟩;refine ⟨_,rfl,?_⟩;have n0_ := Zc.mk (Kd.ZC (by (with_reducible repeat (first | apply Kd.Zi | apply Kd.Zh | apply Kd.Zk));exact HO_5.out) hb);have n1_ := Zc.mk (Kd.ZC (by (with_reducible repeat (first | apply Kd.Zi | apply Kd.Zh | apply Kd.Zk));exact HO_11.out) hb);have n2_ := Zc.mk (Kd.ZC (by (with_reducible repeat (first | apply Kd.Zi | apply Kd.Zh | apply Kd.Zk));exact HO428.out) hb);have n3_ := Zc.mk (Zt (by repeat (first | (with_reducible first | exact HB.out | apply Zf | apply Za | apply Zd) | exact HB.out)) hb);clear HO_5;clear HO_11;clear HO428;clear HB;have HO_5 := n0_;have HO_11 := n1_;have HO428 := n2_;have HB := n3_;clear n0_ n1_ n2_ n3_;(try clear hb);(try clear hb2);(try clear hk);(try clear hi)))
                                   go_ret;exact ⟨by first | rfl | (simp [Zw,Zv] <;> rfl) | (simp [*,Zw,Zv] <;> rfl),by repeat (first | (with_reducible first | exact HB.out | apply Zf | apply Za | apply Zd) | exact HB.out)⟩
                               · rw [if_neg c73] at H
                                 have c73b0 : (t434 == 0) = false := beq_eq_false_iff_ne.mpr c73;have c73b1 : (t434 != 0) = true := bne_iff_ne.mpr c73;obtain rfl := Option.some.inj H;obtain ⟨Ao89,co89,eo89⟩ := Kd.Z9 HO_5.out;subst eo89;obtain ⟨Ao90,co90,eo90⟩ := Kd.Z9 HO_11.out;subst eo90
                                 go_wp2_with (first | ((with_reducible refine Zx (f := 12) rfl ?_);refine ZD (some 125) rfl rfl Try.func12 (by kernel_rfl) rfl #[.slice Ao89 t402.length co89,.slice Ao90 t416.length co90] rfl (by (try simp only [List.map_toArray,List.map_cons,List.map_nil]);first | done | rfl | (simp only [List.length_drop,List.length_take];rfl)) ?_;(with_reducible refine (ZS.calls _ _ t402 _ _ t416 t425 t426 _ ?side1 ?side2 ?side3 ?side4 A68.out).mono ?_);(case side1 => repeat (first | exact (Kd.Zr HO_5.out).2.2 | (with_reducible refine Kd.Z2 ?_ _) | (with_reducible refine Kd.Z3 ?_ _) | (with_reducible refine Kd.Z8 ?_)));(case side2 => exact (Kd.Zr HO_5.out).2.1);(case side3 => repeat (first | exact (Kd.Zr HO_11.out).2.2 | (with_reducible refine Kd.Z2 ?_ _) | (with_reducible refine Kd.Z3 ?_ _) | (with_reducible refine Kd.Z8 ?_)));(case side4 => exact (Kd.Zr HO_11.out).2.1);rintro e w91 ⟨v427,rfl,ho0,hb⟩;refine ⟨_,rfl,?_⟩;have n0_ := Zc.mk (Kd.ZE (by (with_reducible repeat (first | apply Kd.Zi | apply Kd.Zh | apply Kd.Zk));exact HO_5.out) (Kd.ZT ho0) hb);have n1_ := Zc.mk (Kd.ZE (by (with_reducible repeat (first | apply Kd.Zi | apply Kd.Zh | apply Kd.Zk));exact HO_11.out) (Kd.ZT ho0) hb);have n2_ := Zc.mk (Kd.ZM (Kd.ZV (Kd.ZV ho0 (Kd.R_lt (by (with_reducible repeat (first | apply Kd.Zi | apply Kd.Zh | apply Kd.Zk));exact HO_5.out))) (Kd.R_lt (by (with_reducible repeat (first | apply Kd.Zi | apply Kd.Zh | apply Kd.Zk));exact HO_11.out))) (Zs (by repeat (first | (with_reducible first | exact HB.out | apply Zf | apply Za | apply Zd) | exact HB.out))));have n3_ := Zc.mk (Zt (by repeat (first | (with_reducible first | exact HB.out | apply Zf | apply Za | apply Zd) | exact HB.out)) hb);clear HO_5;clear HO_11;clear HB;have HO_5 := n0_;have HO_11 := n1_;have HO428 := n2_;have HB := n3_;clear n0_ n1_ n2_ n3_;(try clear hb);(try clear hb2);(try clear hk);(try clear hi);(try clear ho0)) | ((with_reducible refine Zx (f := 17) rfl ?_);refine ZD (some 138) rfl rfl Try.func17 (by kernel_rfl) rfl #[.slice Ao89 t402.length co89] rfl (by (try simp only [List.map_toArray,List.map_cons,List.map_nil]);first | done | rfl | (simp only [List.length_drop,List.length_take];rfl)) ?_;(with_reducible refine (Z4.calls kj64 _ _ t402 t429 t430 _ ?side1 ?side2 A70.out).mono ?_);(case side1 => repeat (first | exact (Kd.Zr HO_5.out).2.2 | (with_reducible refine Kd.Z2 ?_ _) | (with_reducible refine Kd.Z3 ?_ _) | (with_reducible refine Kd.Z8 ?_)));(case side2 => exact (Kd.Zr HO_5.out).2.1);rintro e w92 ⟨rfl,hb⟩;refine ⟨_,rfl,?_⟩;have n0_ := Zc.mk (Kd.ZC (by (with_reducible repeat (first | apply Kd.Zi | apply Kd.Zh | apply Kd.Zk));exact HO_5.out) hb);have n1_ := Zc.mk (Kd.ZC (by (with_reducible repeat (first | apply Kd.Zi | apply Kd.Zh | apply Kd.Zk));exact HO_11.out) hb);have n2_ := Zc.mk (Kd.ZC (by (with_reducible repeat (first | apply Kd.Zi | apply Kd.Zh | apply Kd.Zk));exact HO428.out) hb);have n3_ := Zc.mk (Zt (by repeat (first | (with_reducible first | exact HB.out | apply Zf | apply Za | apply Zd) | exact HB.out)) hb);clear HO_5;clear HO_11;clear HO428;clear HB;have HO_5 := n0_;have HO_11 := n1_;have HO428 := n2_;have HB := n3_;clear n0_ n1_ n2_ n3_;(try clear hb);(try clear hb2);(try clear hk);(try clear hi)) | ((with_reducible refine Zx (f := 17) rfl ?_);refine ZD (some 143) rfl rfl Try.func17 (by kernel_rfl) rfl #[.slice Ao90 t416.length co90] rfl (by (try simp only [List.map_toArray,List.map_cons,List.map_nil]);first | done | rfl | (simp only [List.length_drop,List.length_take];rfl)) ?_;(with_reducible refine (Z4.calls kj64 _ _ t416 t431 t432 _ ?side1 ?side2 A71.out).mono ?_);(case side1 => repeat (first | exact (Kd.Zr HO_11.out).2.2 | (with_reducible refine Kd.Z2 ?_ _) | (with_reducible refine Kd.Z3 ?_ _) | (with_reducible refine Kd.Z8 ?_)));(case side2 => exact (Kd.Zr HO_11.out).2.1);rintro e w93 ⟨rfl,hb⟩;refine ⟨_,rfl,?_⟩;have n0_ := Zc.mk (Kd.ZC (by (with_reducible repeat (first | apply Kd.Zi | apply Kd.Zh | apply Kd.Zk));exact HO_5.out) hb);have n1_ := Zc.mk (Kd.ZC (by (with_reducible repeat (first | apply Kd.Zi | apply Kd.Zh | apply Kd.Zk));exact HO_11.out) hb);have n2_ := Zc.mk (Kd.ZC (by (with_reducible repeat (first | apply Kd.Zi | apply Kd.Zh | apply Kd.Zk));exact HO428.out) hb);have n3_ := Zc.mk (Zt (by repeat (first | (with_reducible first | exact HB.out | apply Zf | apply Za | apply Zd) | exact HB.out)) hb);clear HO_5;clear HO_11;clear HO428;clear HB;have HO_5 := n0_;have HO_11 := n1_;have HO428 := n2_;have HB := n3_;clear n0_ n1_ n2_ n3_;(try clear hb);(try clear hb2);(try clear hk);(try clear hi)) | ((with_reducible refine Zx (f := 17) rfl ?_);refine ZD (some 148) rfl rfl Try.func17 (by kernel_rfl) rfl #[.slice A0 l0.length c0] rfl (by (try simp only [List.map_toArray,List.map_cons,List.map_nil]);first | done | rfl | (simp only [List.length_drop,List.length_take];rfl)) ?_;(with_reducible refine (Z4.calls kj64 _ _ l0 t433 t434 _ ?side1 ?side2 A72.out).mono ?_);(case side1 => repeat (first | exact (Kd.ZB HR0.out HB.out) | (with_reducible refine Kd.Z2 ?_ _) | (with_reducible refine Kd.Z3 ?_ _) | (with_reducible refine Kd.Z8 ?_)));(case side2 => exact HC0.out);rintro e w94 ⟨rfl,hb⟩;refine ⟨_,rfl,?_⟩;have n0_ := Zc.mk (Kd.ZC (by (with_reducible repeat (first | apply Kd.Zi | apply Kd.Zh | apply Kd.Zk));exact HO_5.out) hb);have n1_ := Zc.mk (Kd.ZC (by (with_reducible repeat (first | apply Kd.Zi | apply Kd.Zh | apply Kd.Zk));exact HO_11.out) hb);have n2_ := Zc.mk (Kd.ZC (by (with_reducible repeat (first | apply Kd.Zi | apply Kd.Zh | apply Kd.Zk));exact HO428.out) hb);have n3_ := Zc.mk (Zt (by repeat (first | (with_reducible first | exact HB.out | apply Zf | apply Za | apply Zd) | exact HB.out)) hb);clear HO_5;clear HO_11;clear HO428;clear HB;have HO_5 := n0_;have HO_11 := n1_;have HO428 := n2_;have HB := n3_;clear n0_ n1_ n2_ n3_;(try clear hb);(try clear hb2);(try clear hk);(try clear hi)))
                                 go_ret;exact ⟨by first | rfl | (simp [Zw,Zv] <;> rfl) | (simp [*,Zw,Zv] <;> rfl),by repeat (first | (with_reducible first | exact HB.out | apply Zf | apply Za | apply Zd) | exact HB.out)⟩
                             · rw [if_neg c69] at H
                               have c69b0 : (t426 == 0) = false := beq_eq_false_iff_ne.mpr c69;have c69b1 : (t426 != 0) = true := bne_iff_ne.mpr c69
                               by_cases c95 : t426 = 4
                               · rw [if_pos c95] at H
                                 have c95b0 : (t426 == 4) = true := beq_iff_eq.mpr c95;have c95b1 : (t426 != 4) = false := bne_eq_false_iff_eq.mpr c95;clear c95;obtain rfl := Option.some.inj H;obtain ⟨Ao96,co96,eo96⟩ := Kd.Z9 HO_5.out;subst eo96;obtain ⟨Ao97,co97,eo97⟩ := Kd.Z9 HO_11.out;subst eo97
                                 go_wp2_with (first | ((with_reducible refine Zx (f := 12) rfl ?_);refine ZD (some 125) rfl rfl Try.func12 (by kernel_rfl) rfl #[.slice Ao96 t402.length co96,.slice Ao97 t416.length co97] rfl (by (try simp only [List.map_toArray,List.map_cons,List.map_nil]);first | done | rfl | (simp only [List.length_drop,List.length_take];rfl)) ?_;(with_reducible refine (ZS.calls _ _ t402 _ _ t416 t425 t426 _ ?side1 ?side2 ?side3 ?side4 A68.out).mono ?_);(case side1 => repeat (first | exact (Kd.Zr HO_5.out).2.2 | (with_reducible refine Kd.Z2 ?_ _) | (with_reducible refine Kd.Z3 ?_ _) | (with_reducible refine Kd.Z8 ?_)));(case side2 => exact (Kd.Zr HO_5.out).2.1);(case side3 => repeat (first | exact (Kd.Zr HO_11.out).2.2 | (with_reducible refine Kd.Z2 ?_ _) | (with_reducible refine Kd.Z3 ?_ _) | (with_reducible refine Kd.Z8 ?_)));(case side4 => exact (Kd.Zr HO_11.out).2.1);rintro e w98 ⟨v427,rfl,ho0,hb⟩;refine ⟨_,rfl,?_⟩;have n0_ := Zc.mk (Kd.ZE (by (with_reducible repeat (first | apply Kd.Zi | apply Kd.Zh | apply Kd.Zk));exact HO_5.out) (Kd.ZT ho0) hb);have n1_ := Zc.mk (Kd.ZE (by (with_reducible repeat (first | apply Kd.Zi | apply Kd.Zh | apply Kd.Zk));exact HO_11.out) (Kd.ZT ho0) hb);have n2_ := Zc.mk (Kd.ZM (Kd.ZV (Kd.ZV ho0 (Kd.R_lt (by (with_reducible repeat (first | apply Kd.Zi | apply Kd.Zh | apply Kd.Zk));exact HO_5.out))) (Kd.R_lt (by (with_reducible repeat (first | apply Kd.Zi | apply Kd.Zh | apply Kd.Zk));exact HO_11.out))) (Zs (by repeat (first | (with_reducible first | exact HB.out | apply Zf | apply Za | apply Zd) | exact HB.out))));have n3_ := Zc.mk (Zt (by repeat (first | (with_reducible first | exact HB.out | apply Zf | apply Za | apply Zd) | exact HB.out)) hb);clear HO_5;clear HO_11;clear HB;have HO_5 := n0_;have HO_11 := n1_;have HO428 := n2_;have HB := n3_;clear n0_ n1_ n2_ n3_;(try clear hb);(try clear hb2);(try clear hk);(try clear hi);(try clear ho0)))
                                 go_ret;exact ⟨by first | rfl | (simp [Zw,Zv] <;> rfl) | (simp [*,Zw,Zv] <;> rfl),by repeat (first | (with_reducible first | exact HB.out | apply Zf | apply Za | apply Zd) | exact HB.out)⟩
                               · rw [if_neg c95] at H
                                 have c95b0 : (t426 == 4) = false := beq_eq_false_iff_ne.mpr c95;have c95b1 : (t426 != 4) = true := bne_iff_ne.mpr c95;obtain rfl := Option.some.inj H;obtain ⟨Ao99,co99,eo99⟩ := Kd.Z9 HO_5.out;subst eo99;obtain ⟨Ao100,co100,eo100⟩ := Kd.Z9 HO_11.out;subst eo100
                                 go_wp2_with (first | ((with_reducible refine Zx (f := 12) rfl ?_);refine ZD (some 125) rfl rfl Try.func12 (by kernel_rfl) rfl #[.slice Ao99 t402.length co99,.slice Ao100 t416.length co100] rfl (by (try simp only [List.map_toArray,List.map_cons,List.map_nil]);first | done | rfl | (simp only [List.length_drop,List.length_take];rfl)) ?_;(with_reducible refine (ZS.calls _ _ t402 _ _ t416 t425 t426 _ ?side1 ?side2 ?side3 ?side4 A68.out).mono ?_);(case side1 => repeat (first | exact (Kd.Zr HO_5.out).2.2 | (with_reducible refine Kd.Z2 ?_ _) | (with_reducible refine Kd.Z3 ?_ _) | (with_reducible refine Kd.Z8 ?_)));(case side2 => exact (Kd.Zr HO_5.out).2.1);(case side3 => repeat (first | exact (Kd.Zr HO_11.out).2.2 | (with_reducible refine Kd.Z2 ?_ _) | (with_reducible refine Kd.Z3 ?_ _) | (with_reducible refine Kd.Z8 ?_)));(case side4 => exact (Kd.Zr HO_11.out).2.1);rintro e w101 ⟨v427,rfl,ho0,hb⟩;refine ⟨_,rfl,?_⟩;have n0_ := Zc.mk (Kd.ZE (by (with_reducible repeat (first | apply Kd.Zi | apply Kd.Zh | apply Kd.Zk));exact HO_5.out) (Kd.ZT ho0) hb);have n1_ := Zc.mk (Kd.ZE (by (with_reducible repeat (first | apply Kd.Zi | apply Kd.Zh | apply Kd.Zk));exact HO_11.out) (Kd.ZT ho0) hb);have n2_ := Zc.mk (Kd.ZM (Kd.ZV (Kd.ZV ho0 (Kd.R_lt (by (with_reducible repeat (first | apply Kd.Zi | apply Kd.Zh | apply Kd.Zk));exact HO_5.out))) (Kd.R_lt (by (with_reducible repeat (first | apply Kd.Zi | apply Kd.Zh | apply Kd.Zk));exact HO_11.out))) (Zs (by repeat (first | (with_reducible first | exact HB.out | apply Zf | apply Za | apply Zd) | exact HB.out))));have n3_ := Zc.mk (Zt (by repeat (first | (with_reducible first | exact HB.out | apply Zf | apply Za | apply Zd) | exact HB.out)) hb);clear HO_5;clear HO_11;clear HB;have HO_5 := n0_;have HO_11 := n1_;have HO428 := n2_;have HB := n3_;clear n0_ n1_ n2_ n3_;(try clear hb);(try clear hb2);(try clear hk);(try clear hi);(try clear ho0)))
                                 go_ret;exact ⟨by first | rfl | (simp [Zw,Zv] <;> rfl) | (simp [*,Zw,Zv] <;> rfl),by repeat (first | (with_reducible first | exact HB.out | apply Zf | apply Za | apply Zd) | exact HB.out)⟩
 · replace c4 := Bool.eq_false_iff.mpr c4
   subst c4
   have H1 : (some false) = some r := by rw [if_neg (show ¬ (false = true) by decide)] at H;exact H
   clear H;have H := H1;clear H1;obtain rfl := Option.some.inj H
   go_enter Try.func3,Try.ntmps3
   go_wp2_with (first | ((with_reducible refine Zx (f := 10) rfl ?_);refine ZD (some 18) rfl rfl Try.func10 (by kernel_rfl) rfl #[] rfl (by (try simp only [List.map_toArray,List.map_cons,List.map_nil]);first | done | rfl | (simp only [List.length_drop,List.length_take];rfl)) ?_;(with_reducible refine (Xd.calls  false _ A3.out).mono ?_);rintro e w102 ⟨rfl,hb⟩;refine ⟨_,rfl,?_⟩;have n0_ := Zc.mk (Zt (by repeat (first | (with_reducible first | exact HB.out | apply Zf | apply Za | apply Zd) | exact HB.out)) hb);clear HB;have HB := n0_;clear n0_;(try clear hb);(try clear hb2);(try clear hk);(try clear hi)))
   go_ret;exact ⟨by first | rfl | (simp [Zw,Zv] <;> rfl) | (simp [*,Zw,Zv] <;> rfl),by repeat (first | (with_reducible first | exact HB.out | apply Zf | apply Za | apply Zd) | exact HB.out)⟩
end Go.Proofs.Ythbajahklnpkcaa.PA

namespace Go.Proofs.Ythbajahklnpkcaa.PA
open Go.RowKit Go.Proofs.YthbajahklnpkcaaW.PrintWords Go.Proofs.YthbajahklnpkcaaW.PrintLast Go.Proofs.YthbajahklnpkcaaW.PrintMore
set_option linter.unusedVariables false
set_option linter.unusedSimpArgs false
theorem JX {r : S43} (h : okR r = true) : 0 ≤ r.f2 * r.f3 ∧ r.f2 * r.f3 ≤ 400000000 := by
 have h0 := (Qb r).mp h;have h1 : 0 ≤ r.f2 * r.f3 := Int.mul_nonneg (by omega) (by omega);have h2 : r.f2 * r.f3 ≤ 20000 * 20000 := Int.mul_le_mul (by omega) (by omega) (by omega) (by omega);exact ⟨h1,by omega⟩
theorem rarea_l0 (l : List S43) (hl : l.length ≤ 200) (hb : badL l = false) : ∀ (n kk : Nat) (s : Int),l.length - kk = n → kk ≤ l.length → 0 ≤ s → s ≤ (kk : Int) * 400000000 → Ev (fun k => Z4.l0 k s l (l.length : Int) kk) (s + areaL (l.drop kk),0) := by
 intro n
 induction n with
 | zero =>
  intro kk s hn hk h0 h1;rw [List.drop_eq_nil_of_le (by omega)];refine Ev.pure (fun k => ?_);simp only [Z4.l0];rw [if_neg (by omega)];simp [areaL]
 | succ n ih =>
  intro kk s hn hk h0 h1
  have hlt : kk < l.length := by omega
  have hx := Xu l kk hlt;have hw : wrap64 ((kk : Int) + 1) = ((kk + 1 : Nat) : Int) := Xz (by omega)
  have i0 : (0 : Int) ≤ (kk : Int) := by omega
  have i1 : (kk : Int) < (l.length : Int) := by omega
  have hmem : Zg l (kk : Int) ∈ l := List.mem_of_getElem? hx;obtain ⟨a0,a1⟩ := JX (XB.mp hb _ hmem)
  have hd : areaL (l.drop kk) = (Zg l (kk : Int)).f2 * (Zg l (kk : Int)).f3 + areaL (l.drop (kk + 1)) := by
   have e : l[kk] = Zg l (kk : Int) := by rw [List.getElem?_eq_getElem hlt] at hx;exact Option.some.inj hx
   rw [List.drop_eq_getElem_cons hlt,areaL,e]
  rw [hd,← Int.add_assoc];generalize hm : (Zg l (kk : Int)).f2 * (Zg l (kk : Int)).f3 = m at a0 a1
  have hs : (kk : Int) * 400000000 + 400000000 = ((kk + 1 : Nat) : Int) * 400000000 := by omega
  have hbig : (kk : Int) * 400000000 ≤ 200 * 400000000 := by omega
  refine Ev.step (fun k => ?_) (ih (kk + 1) (s + m) (by omega) (by omega) (by omega) (by omega));simp only [Z4.l0];rw [if_pos i1,if_pos i0,if_pos i1,hm,w64 (x := m) (by omega) (by omega),w64 (x := s + m) (by omega) (by omega),hw]
theorem rarea (l : List S43) (h : validB l = true) : Ev (fun k => Z4.f k l) (areaL l,0) := by
 have v := (Xr l).mp h;have h0 := rarea_l0 l v.1 v.2.1 _ 0 0 rfl (Nat.zero_le _) (by omega) (by omega);rw [List.drop_zero,Int.zero_add] at h0;refine Ev.congr (fun k => ?_) h0;unfold Z4.f Xv.f;rw [h];rfl
theorem Vr : ∀ (l : List S43),badL l = false → 0 ≤ areaL l ∧ areaL l ≤ (l.length : Int) * 400000000
 | [],_ => by simp [areaL]
 | r :: l,h => by
  have hb := XB.mp h;obtain ⟨a0,a1⟩ := JX (hb r (by simp));obtain ⟨b0,b1⟩ := Vr l (XB.mpr fun r hr => hb r (by simp [hr]));rw [areaL]
  have : ((r :: l).length : Int) = (l.length : Int) + 1 := by simp
  rw [this];omega
theorem Yb {is : Bool → Bool → Bool} (hf : is false false = false) (hs : ∀ a b : List S43,full (TR is a b) 40000 = full (TR is b a) 40000) (a b : List S43) : joinL is a b = joinL is b a ∧ joinE is a b = joinE is b a := by
 unfold joinL joinE
 cases ha : validB a with
 | false => cases hb : validB b <;> exact ⟨rfl,rfl⟩
 | true =>
  cases hb : validB b with
  | false => exact ⟨rfl,rfl⟩
  | true =>
   have va := (Xr a).mp ha;have vb := (Xr b).mp hb;rw [Qh hf va.2.1 vb.2.1,Qh hf vb.2.1 va.2.1,hs a b];exact ⟨rfl,rfl⟩
theorem YQ {l : List S43} (h : madeE l = 0) : badL l = false ∧ l.length ≤ 200 ∧ madeL l = l := by
 unfold madeE at h;unfold madeL
 cases hb : badL l with
 | true => rw [hb,if_pos rfl] at h;cases h
 | false =>
  rw [hb,if_neg (by decide)] at h
  by_cases h2 : 200 < l.length
  · rw [if_pos h2] at h;cases h
  · rw [if_neg (by decide),if_neg h2]
    exact ⟨rfl,by omega,rfl⟩
theorem YY {is : Bool → Bool → Bool} (hf : is false false = false) {a b : List S43} (h : joinE is a b = 0) : validB a = true ∧ validB b = true ∧ joinL is a b = full (TR is a b) 40000 ∧ validB (joinL is a b) = true := by
 unfold joinE at h
 cases ha : validB a with
 | false => rw [ha,if_neg (by decide)] at h;cases h
 | true =>
  cases hb : validB b with
  | false => rw [ha,hb,if_pos rfl,if_neg (by decide)] at h;cases h
  | true =>
   rw [ha,hb,if_pos rfl,if_pos rfl] at h;have va := (Xr a).mp ha;have vb := (Xr b).mp hb;obtain ⟨h1,h2,h3⟩ := YQ h;have ho := Qh hf va.2.1 vb.2.1
   have hj : joinL is a b = full (TR is a b) 40000 := by unfold joinL;rw [ha,hb,if_pos rfl,if_pos rfl,h3,ho]
   refine ⟨rfl,rfl,hj,?_⟩;rw [hj,Xr];rw [ho] at h1 h2;exact validRegion_full (YF hf va.2.1 vb.2.1) h1 h2
theorem join_ok {is : Bool → Bool → Bool} {x y : List S43} (hx : validB x = true) (hy : validB y = true) : joinL is x y = madeL (outOf is x y) ∧ joinE is x y = madeE (outOf is x y) := by
 unfold joinL joinE;rw [hx,hy];exact ⟨rfl,rfl⟩
theorem YV (l : List S43) : ∃ q,ZK.f l = some q := by
 unfold ZK.f;split
 · exact ⟨_,rfl⟩
 · split <;> exact ⟨_,rfl⟩
theorem joins (a b : List S43) (hla : a.length ≤ 9223372036854775807) (hlb : b.length ≤ 9223372036854775807) : ∃ k,Ze.f k a b = some true := by
 refine Ev.some ?_;unfold Ze.f;rw [awake_f]
 have hhv : ∃ q,ZY.f a b = some q := by
  obtain ⟨p,hp⟩ := YV a;obtain ⟨p',hp'⟩ := YV b;unfold ZY.f;rw [hp,hp']
  cases p <;> exact ⟨_,rfl⟩
 obtain ⟨q,hq⟩ := hhv;rw [hq]
 cases q with
 | true => exact Ev.val (fun k => rfl)
 | false =>
  have hU : ∀ x y,ZS.f x y = some (joinL orB x y,joinE orB x y) := fun _ _ => rfl
  have hM : ∀ x y,X4.f x y = some (joinL andB x y,joinE andB x y) := fun _ _ => rfl
  have hS : ∀ x y,XG.f x y = some (joinL lessB x y,joinE lessB x y) := fun _ _ => rfl
  have hjl : ∀ is x y,(joinL is x y).length ≤ 9223372036854775807 := by
   intro is x y;unfold joinL
   cases hx : validB x with
   | false => rw [if_neg (by decide)];exact Nat.zero_le _
   | true =>
    cases hy : validB y with
    | false => rw [if_pos rfl,if_neg (by decide)];exact Nat.zero_le _
    | true =>
     rw [if_pos rfl,if_pos rfl];have := Vi is x y ((Xr x).mp hx).1 ((Xr y).mp hy).1;unfold madeL;split
     · exact Nat.zero_le _
     · split
       · exact Nat.zero_le _
       · exact this
  have hR : ∀ m : List S43,m.length ≤ 9223372036854775807 → Ev (fun k => Zj.f k m m) true := fun m hm => by have h := rRects' m m hm;rw [eqL_refl] at h;exact h
  have H5 : ∀ q : Bool,(q = false → joinE andB a b = 0 ∧ joinE lessB a b = 0) → Ev (fun k => Ze.j5 k a (joinL andB a b) (joinL lessB a b) q) true := by
   intro q hq
   cases q with
   | true => exact Ev.pure (fun k => by simp only [Ze.j5,if_true])
   | false =>
    obtain ⟨e1,e2⟩ := hq rfl;obtain ⟨va,vb,x1,x2⟩ := YY (is := andB) rfl e1;obtain ⟨_,_,y1,y2⟩ := YY (is := lessB) rfl e2;have ka := (Xr a).mp va;have kb := (Xr b).mp vb;have kx := (Xr _).mp x2;have ky := (Xr _).mp y2
    have hw : outOf orB (joinL andB a b) (joinL lessB a b) = a := by
     rw [Qh rfl kx.2.1 ky.2.1,x1,y1];exact whole_eq ka.2.1 kb.2.1 ka.2.2
    have hme : madeE a = 0 := by unfold madeE;rw [if_neg (by rw [ka.2.1];decide),if_neg (by have := ka.1;omega)]
    have hml : madeL a = a := (YQ hme).2.2
    have hu : ZS.f (joinL andB a b) (joinL lessB a b) = some (a,0) := by
     obtain ⟨o1,o2⟩ := join_ok (is := orB) x2 y2;rw [hU,o1,o2,hw,hme,hml]
    have harea : areaL (joinL andB a b) + areaL (joinL lessB a b) = areaL a := by
     rw [x1,y1,area_split,fst_eq ka.2.2]
    have bx := Vr _ ka.2.1;have bl := ka.1;refine Ev.step (h := fun k => (Z4.f k (joinL andB a b)).bind fun bt429 => ((Z4.f k (joinL lessB a b)).bind fun bt431 => ((Z4.f k a).bind fun bt433 => (if bt433.2 = 0 then (if (wrap64 (bt429.1 + bt431.1)) = bt433.1 then ((Zj.f k a a).bind fun t435 => (some t435)) else (some false)) else (some false))))) (fun k => by simp only [Ze.j5];rw [if_neg (by decide),hu];rfl) ?_;refine Ev.bind (rarea _ x2) (Ev.bind (rarea _ y2) (Ev.bind (rarea a va) ?_));refine Ev.congr (h := fun k => (Zj.f k a a).bind fun t435 => (some t435)) (fun k => ?_) (Ev.bind (hR a hla) (Ev.val (fun k => rfl)));show (if (0 : Int) = 0 then (if (wrap64 (areaL (joinL andB a b) + areaL (joinL lessB a b))) = areaL a then ((Zj.f k a a).bind fun t435 => (some t435)) else (some false)) else (some false)) = _;rw [if_pos rfl,harea,w64 (by omega) (by omega),if_pos rfl]
  have H4 : Ev (fun k => Ze.j4 k a (joinL andB a b) (joinE lessB a b) (joinE andB b a) (joinL lessB a b) false) true := by
   have hs := (Yb (is := andB) rfl Jd a b).2
   by_cases he : joinE lessB a b = 0
   · refine Ev.step (fun k => ?_) (H5 (joinE andB b a != 0) (fun h => ⟨by rw [hs];simpa using h,he⟩))
     simp only [Ze.j4];rw [if_neg (by decide),if_pos he]
   · refine Ev.step (fun k => ?_) (H5 true (fun h => by cases h))
     simp only [Ze.j4];rw [if_neg (by decide),if_neg he]
  have H3 : Ev (fun k => Ze.j3 k a b (joinL andB a b) (joinE andB b a) false) true := by
   refine Ev.step (h := fun k => ((Zm.f k a b 3).bind fun bt420 => ((Zj.f k (joinL lessB a b) bt420.1).bind fun t424 => (if t424 = true then (Ze.j4 k a (joinL andB a b) (joinE lessB a b) (joinE andB b a) (joinL lessB a b) (joinE lessB a b != bt420.2)) else (Ze.j4 k a (joinL andB a b) (joinE lessB a b) (joinE andB b a) (joinL lessB a b) true))))) (fun k => by simp only [Ze.j3];rw [if_neg (by decide),hS];rfl) ?_;refine Ev.bind (rjoined a b hla hlb 3 (.inr (.inr rfl))) (Ev.bind (hR _ (hjl _ a b)) ?_);refine Ev.congr (fun k => ?_) H4;show (if true = true then _ else _) = _;rw [if_pos rfl]
   congr 1
   exact bne_self_eq_false _
  have H2 : Ev (fun k => Ze.j2 k a b (joinL andB a b) (joinE andB a b) false) true := by
   obtain ⟨s1,s2⟩ := Yb (is := andB) rfl Jd a b;refine Ev.step (h := fun k => ((Zj.f k (joinL andB a b) (joinL andB b a)).bind fun t415 => (if t415 = true then (Ze.j3 k a b (joinL andB a b) (joinE andB b a) (joinE andB a b != joinE andB b a)) else (Ze.j3 k a b (joinL andB a b) (joinE andB b a) true)))) (fun k => by simp only [Ze.j2];rw [if_neg (by decide),hM];rfl) ?_;refine Ev.bind (a := true) (by rw [← s1];exact hR _ (hjl _ a b)) ?_;refine Ev.congr (fun k => ?_) H3;rw [if_pos rfl]
   congr 1
   rw [s2];exact bne_self_eq_false _
  have H1 : Ev (fun k => Ze.j1 k a b false) true := by
   refine Ev.step (h := fun k => ((Zm.f k a b 2).bind fun bt406 => ((Zj.f k (joinL andB a b) bt406.1).bind fun t410 => (if t410 = true then (Ze.j2 k a b (joinL andB a b) (joinE andB a b) (joinE andB a b != bt406.2)) else (Ze.j2 k a b (joinL andB a b) (joinE andB a b) true))))) (fun k => by simp only [Ze.j1];rw [if_neg (by decide),hM];rfl) ?_;refine Ev.bind (rjoined a b hla hlb 2 (.inr (.inl rfl))) (Ev.bind (hR _ (hjl _ a b)) ?_);refine Ev.congr (fun k => ?_) H2;show (if true = true then _ else _) = _;rw [if_pos rfl]
   congr 1
   exact bne_self_eq_false _
  have H0 : Ev (fun k => Ze.j0 k a b (joinL orB a b) (joinE orB a b) false) true := by
   obtain ⟨s1,s2⟩ := Yb (is := orB) rfl union_comm a b;refine Ev.step (h := fun k => ((Zj.f k (joinL orB a b) (joinL orB b a)).bind fun t401 => (if t401 = true then (Ze.j1 k a b (joinE orB a b != joinE orB b a)) else (Ze.j1 k a b true)))) (fun k => by simp only [Ze.j0];rw [if_neg (by decide),hU];rfl) ?_;refine Ev.bind (a := true) (by rw [← s1];exact hR _ (hjl _ a b)) ?_;refine Ev.congr (fun k => ?_) H1;rw [if_pos rfl]
   congr 1
   rw [s2];exact bne_self_eq_false _
  refine Ev.congr (h := fun k => ((Zm.f k a b 1).bind fun bt392 => ((Zj.f k (joinL orB a b) bt392.1).bind fun t396 => (if t396 = true then (Ze.j0 k a b (joinL orB a b) (joinE orB a b) (joinE orB a b != bt392.2)) else (Ze.j0 k a b (joinL orB a b) (joinE orB a b) true))))) (fun k => by rw [hU];rfl) ?_;refine Ev.bind (rjoined a b hla hlb 1 (.inl rfl)) (Ev.bind (hR _ (hjl _ a b)) ?_);refine Ev.congr (fun k => ?_) H0;show (if true = true then _ else _) = _;rw [if_pos rfl]
  congr 1
  exact bne_self_eq_false _
end Go.Proofs.Ythbajahklnpkcaa.PA

namespace Go.Proofs.Ythbajahklnpkcaa.PA
open Go.RowKit Go.Proofs.YthbajahklnpkcaaW.PrintWords Go.Proofs.YthbajahklnpkcaaW.PrintLast Go.Proofs.YthbajahklnpkcaaW.PrintMore
theorem joins_calls (A0 A1 : Option Addr) (c0 c1 : Nat) (l0 l1 : List S43) (w : World) (hr0 : Kd.C k43 w A0 l0.length l0) (hr1 : Kd.C k43 w A1 l1.length l1) (hc0 : l0.length ≤ c0) (hc1 : l1.length ≤ c1) :
 Calls Try.prog 3 #[.slice A0 l0.length c0,.slice A1 l1.length c1] w fun e w' => e = .returned (.bool true) ∧ Below w.heap.size w w' := by
 obtain ⟨k,hk⟩ := joins l0 l1 (Kd.C_max hr0) (Kd.C_max hr1);exact Ze.calls k A0 c0 l0 A1 c1 l1 true w hr0 hc0 hr1 hc1 hk
end Go.Proofs.Ythbajahklnpkcaa.PA

namespace Go.Proofs.Ythbajahklnpkcaa.videoJoins
open Go.ChangeShapes Go.WideShapes Go.ChangeAt Go.RowKit Go.Joins
set_option linter.unusedVariables false
theorem own : ownKnob Try.prog.godebug = none := by kernel_rfl
theorem laidOut : laidOutB Try.prog = true := by kernel_rfl
set_option maxRecDepth 100000 in
theorem lifted (os : Os) (started : os.Started) (H : Type) (enc : TypeId × Value → H) :
 ReturnsInHanded {} Try.checked os 3 .any (Rows.videoJoinsSpec.pre6 enc Try.prog Try.f3 Rows.videoJoinsRow.domain false) (Rows.videoJoinsSpec.post enc Try.prog Try.f3 false true false false) := by
 refine returnsInHanded_of_change_sized (C := Try.checked) own started (by kernel_rfl) Try.func3
  (ChangeSpec.witness6 (enc := enc) (C := Try.checked) false ⟨#[],#[.slice none 0 0,.slice none 0 0],[]⟩ 8 (by kernel_rfl) (by kernel_rfl) (by kernel_rfl) (by kernel_rfl)) ?_
 intro W base args ds gs before hval0 hW hcnd hsz0 _;have hval : ∀ (j : Nat) t v,Try.f3.params[j]? = some t → args[j]? = some v → Value.okWide Try.prog W .any base t v := hval0;have hW' := hW;obtain ⟨p,q,hA0,hV,rfl,hfz,hnd⟩ := hW;have hA : DataW.TrodAll enc Try.prog W 0 (fun _ => true) true Try.f3.params.toList args.toList ds p := hA0;rw [Try.params3] at hA hval;obtain ⟨v0,vs0,d0,ds0,p0,q0,hargs,rfl,rfl,h0,r0⟩ := trodAll_cons hA;obtain ⟨v1,vs1,d1,ds1,p1,q1,rfl,rfl,rfl,h1,r1⟩ := trodAll_cons r0;obtain ⟨rfl,rfl,rfl⟩ := trodAll_nil r1
 obtain rfl : args = #[v0,v1] := by cases args;simp_all
 obtain ⟨rfl,rfl⟩ := trodVars_none hV;obtain ⟨a0,len0,cap0,rfl⟩ := okWide_slice Try.underlying22 (hval 0 22 v0 rfl rfl);have k0 := h0
 have lt0 : ∀ x ∈ p0,x.block < W.heap.size := by obtain ⟨m,hm⟩ := k0;exact DataW.trod_lt m _ _ _ hm
 obtain ⟨zs0,hl0,hc0,hw0,hx0,hy0⟩ : ∃ zs : List PA.S43,zs.length = len0 ∧ len0 ≤ cap0 ∧ (∀ p ∈ zs,(Lit.int .i64 p.f0).wf = true ∧ (Lit.int .i64 p.f1).wf = true ∧ (Lit.int .i64 p.f2).wf = true ∧ (Lit.int .i64 p.f3).wf = true) ∧ (0 < len0 → ∃ ad,a0 = some ad ∧ ∀ j p,zs[j]? = some p → ∀ i u,[Value.int .i64 p.f0,.int .i64 p.f1,.int .i64 p.f2,.int .i64 p.f3][i]? = some u → W.cell? (ad.add (j * 4 + i)) = some u) ∧ len0 ≤ 9223372036854775807 := by
  obtain ⟨fuel,hf⟩ := h0;exact YC Try.underlying22 Try.underlying43 (by kernel_rfl) (by kernel_rfl) Try.underlying3 Try.underlying3 Try.underlying3 Try.underlying3 (by simpa [Value.cells] using hf)
 have kd0 := JZ hl0 hy0 hx0;subst hl0;obtain ⟨a1,len1,cap1,rfl⟩ := okWide_slice Try.underlying22 (hval 1 22 v1 rfl rfl);have k1 := h1
 have lt1 : ∀ x ∈ p1,x.block < W.heap.size := by obtain ⟨m,hm⟩ := k1;exact DataW.trod_lt m _ _ _ hm
 obtain ⟨zs1,hl1,hc1,hw1,hx1,hy1⟩ : ∃ zs : List PA.S43,zs.length = len1 ∧ len1 ≤ cap1 ∧ (∀ p ∈ zs,(Lit.int .i64 p.f0).wf = true ∧ (Lit.int .i64 p.f1).wf = true ∧ (Lit.int .i64 p.f2).wf = true ∧ (Lit.int .i64 p.f3).wf = true) ∧ (0 < len1 → ∃ ad,a1 = some ad ∧ ∀ j p,zs[j]? = some p → ∀ i u,[Value.int .i64 p.f0,.int .i64 p.f1,.int .i64 p.f2,.int .i64 p.f3][i]? = some u → W.cell? (ad.add (j * 4 + i)) = some u) ∧ len1 ≤ 9223372036854775807 := by
  obtain ⟨fuel,hf⟩ := h1;exact YC Try.underlying22 Try.underlying43 (by kernel_rfl) (by kernel_rfl) Try.underlying3 Try.underlying3 Try.underlying3 Try.underlying3 (by simpa [Value.cells] using hf)
 have kd1 := JZ hl1 hy1 hx1;subst hl1;clear hA0 hval0 hsz0;have HC := PA.joins_calls a0 a1 cap0 cap1 zs0 zs1 W kd0 kd1 hc0 hc1
 refine HC.mono fun e W' ⟨he,bel⟩ => ?_
 subst he;exact ⟨_,rfl,_,_,_,[],_,[],hW',trodAll_mk1 (shut_bool Try.underlying4 _),(trodAll_cons_mk (Below.trod laidOut (by kernel_rfl) (of_decide_eq_true (by kernel_rfl)) k0 bel lt0) (trodAll_cons_mk (Below.trod laidOut (by kernel_rfl) (of_decide_eq_true (by kernel_rfl)) k1 bel lt1) trodAll_mk0)),rfl,bel.frame _,fun h => by cases h⟩
theorem over : Rows.videoJoinsRow.holds Try.pinned (OpenSpec.ofChange Rows.videoJoinsSpec) :=
 OpenClaim.holds_of_wide 3 Try.f3 rfl rfl rfl rfl rfl rfl rfl ⟨rfl,rfl,rfl,rfl,rfl⟩ rfl rfl rfl rfl rfl (by kernel_rfl) Try.func3 (by kernel_rfl)
  (of_decide_eq_true (by kernel_rfl)) (by unfold Func.isWrapper;first | (rw [if_pos (by decide +kernel)];kernel_rfl) | (rw [if_neg (by decide +kernel)];exact ⟨rfl,rfl⟩))
  (fun os started H enc _ => lifted os started H enc)
theorem proved : Rows.VideoJoinsSaid := over
#print axioms proved
end Go.Proofs.Ythbajahklnpkcaa.videoJoins
namespace Go.Proofs.Ythbajahklnpkcaa
theorem videoJoins_holds : Rows.VideoJoinsSaid := videoJoins.proved
end Go.Proofs.Ythbajahklnpkcaa
