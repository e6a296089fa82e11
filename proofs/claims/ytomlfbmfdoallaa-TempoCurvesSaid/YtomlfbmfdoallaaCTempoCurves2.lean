/- TempoCurves, part 2: what the row is built on. -/
import Derived.Test.YtomlfbmfdoallaaCTempoCurves1
import Derived.Lib.Hide
import Derived.LoopTactic
import Derived.Shelf.Abstract
import Derived.RangeFuncNested
import Derived.RangeFuncBound
import Derived.RangeFuncCalls
import Derived.RangeFuncLeaves
import Derived.Shelf.RegionOpen
import Derived.WalkKit
import Derived.OwnWalkIn
import Derived.TacticsInMore
import Derived.LoopNIn
import Derived.LoopIn
import Derived.RegionIn
import Derived.BigRegionIn
import Derived.Outline
import Derived.Below
import Derived.Deep.Draws
namespace Go.Proofs.Ytomlfbmfdoallaa.PA
open Go.RowKit Go.Proofs.YtomlfbmfdoallaaW.PrintWords Go.Proofs.YtomlfbmfdoallaaW.PrintLast Go.Proofs.YtomlfbmfdoallaaW.PrintMore
attribute [local go_sem] Xf Xe Xj Xk ZV ZU Xd Xc
set_option linter.unusedVariables false
set_option linter.unusedSimpArgs false
mutual
def Zy.j0 : Nat → List (S27) → Bool → Option (Bool)
 | 0,_,_ => none
 | k + 1,x0,x25 => if x25 = true then (some false) else (Zy.l0 k x0 x0 (x0.length : Int) 0)
def Zy.l0 : Nat → List (S27) → List (S27) → Int → Int → Option (Bool)
 | 0,_,_,_,_ => none
 | k + 1,x0,x26,x27,x28 => if x28 < x27 then (if 0 ≤ x28 then (if x28 < (x26.length : Int) then ((Z1.f ((Zf x26 x28).f1) 1 67108864).bind fun t113 => (if t113 = true then ((Z1.f ((Zf x26 x28).f2) 0 1).bind fun t114 => (if t114 = true then ((Z1.f ((Zf x26 x28).f0) 0 1000000000).bind fun t115 => (if t115 = true then (if x28 > 0 then (if 0 ≤ (wrap64 (x28 - 1)) then (if (wrap64 (x28 - 1)) < (x0.length : Int) then (Zy.j2 k x0 x28 x26 x27 x28 (decide (((Zf x0 (wrap64 (x28 - 1))).f0) ≥ ((Zf x26 x28).f0))) ((Zf x26 x28).f0) ((Zf x26 x28).f1) ((Zf x26 x28).f2)) else (none)) else (none)) else (Zy.j2 k x0 x28 x26 x27 x28 false ((Zf x26 x28).f0) ((Zf x26 x28).f1) ((Zf x26 x28).f2))) else (Zy.j2 k x0 x28 x26 x27 x28 true ((Zf x26 x28).f0) ((Zf x26 x28).f1) ((Zf x26 x28).f2)))) else (Zy.j2 k x0 x28 x26 x27 x28 true ((Zf x26 x28).f0) ((Zf x26 x28).f1) ((Zf x26 x28).f2)))) else (Zy.j2 k x0 x28 x26 x27 x28 true ((Zf x26 x28).f0) ((Zf x26 x28).f1) ((Zf x26 x28).f2)))) else (none)) else (none)) else (some true)
def Zy.j2 : Nat → List (S27) → Int → List (S27) → Int → Int → Bool → Int → Int → Int → Option (Bool)
 | 0,_,_,_,_,_,_,_,_,_ => none
 | k + 1,x0,x3,x26,x27,x28,x63,x113000,x113001,x113002 => if x63 = true then (some false) else (if x113002 = 1 then (if 0 ≤ (wrap64 (x3 + 1)) then (if (wrap64 (x3 + 1)) < (x0.length : Int) then (if (wrap64 (((Zf x0 (wrap64 (x3 + 1))).f0) - x113000)) > 10000 then (some false) else (Zy.l0 k x0 x26 x27 (wrap64 (x28 + 1)))) else (none)) else (none)) else (Zy.l0 k x0 x26 x27 (wrap64 (x28 + 1))))
end
def Zy.f (k : Nat) (l0 : List (S27)) : Option (Bool) := (Z1.f (l0.length : Int) 1 50).bind fun t108 => (if t108 = true then (if 0 < (l0.length : Int) then (if ((Zf l0 0).f0) = 0 then (if 0 ≤ (wrap64 ((l0.length : Int) - 1)) then (if (wrap64 ((l0.length : Int) - 1)) < (l0.length : Int) then (Zy.j0 k l0 (((Zf l0 (wrap64 ((l0.length : Int) - 1))).f2) != 0)) else (none)) else (none)) else (Zy.j0 k l0 true)) else (none)) else (Zy.j0 k l0 true))
theorem Zy.Xm : ∀ k,(∀ y0 y1,LeO (Zy.j0 k y0 y1) (Zy.j0 (k + 1) y0 y1)) ∧ (∀ y0 y1 y2 y3,LeO (Zy.l0 k y0 y1 y2 y3) (Zy.l0 (k + 1) y0 y1 y2 y3)) ∧ (∀ y0 y1 y2 y3 y4 y5 y6 y7 y8,LeO (Zy.j2 k y0 y1 y2 y3 y4 y5 y6 y7 y8) (Zy.j2 (k + 1) y0 y1 y2 y3 y4 y5 y6 y7 y8))
 | 0 => ⟨fun _ _ r h => by simp [Zy.j0] at h,fun _ _ _ _ r h => by simp [Zy.l0] at h,fun _ _ _ _ _ _ _ _ _ r h => by simp [Zy.j2] at h⟩
 | k + 1 => by
  obtain ⟨ih0,ih1,ih2⟩ := Zy.Xm k;refine ⟨?_,?_,?_⟩
  · intro y0 y1
    unfold Zy.j0
    repeat' first
    | (with_reducible exact ih0 _ _)
    | (with_reducible exact ih1 _ _ _ _)
    | (with_reducible exact ih2 _ _ _ _ _ _ _ _ _)
    | (with_reducible exact LeO.refl _)
    | (with_reducible exact LeO.none _)
    | (with_reducible refine LeO.ite ?_ ?_)
    | (with_reducible refine LeO.bind ?_ (fun _ => ?_))
    | exact ih0 _ _
    | exact ih1 _ _ _ _
    | exact ih2 _ _ _ _ _ _ _ _ _
    | exact LeO.none _
    | refine LeO.ite ?_ ?_
    | refine LeO.bind ?_ (fun _ => ?_)
  · intro y0 y1 y2 y3
    unfold Zy.l0
    repeat' first
    | (with_reducible exact ih0 _ _)
    | (with_reducible exact ih1 _ _ _ _)
    | (with_reducible exact ih2 _ _ _ _ _ _ _ _ _)
    | (with_reducible exact LeO.refl _)
    | (with_reducible exact LeO.none _)
    | (with_reducible refine LeO.ite ?_ ?_)
    | (with_reducible refine LeO.bind ?_ (fun _ => ?_))
    | exact ih0 _ _
    | exact ih1 _ _ _ _
    | exact ih2 _ _ _ _ _ _ _ _ _
    | exact LeO.none _
    | refine LeO.ite ?_ ?_
    | refine LeO.bind ?_ (fun _ => ?_)
  · intro y0 y1 y2 y3 y4 y5 y6 y7 y8
    unfold Zy.j2
    repeat' first
    | (with_reducible exact ih0 _ _)
    | (with_reducible exact ih1 _ _ _ _)
    | (with_reducible exact ih2 _ _ _ _ _ _ _ _ _)
    | (with_reducible exact LeO.refl _)
    | (with_reducible exact LeO.none _)
    | (with_reducible refine LeO.ite ?_ ?_)
    | (with_reducible refine LeO.bind ?_ (fun _ => ?_))
    | exact ih0 _ _
    | exact ih1 _ _ _ _
    | exact ih2 _ _ _ _ _ _ _ _ _
    | exact LeO.none _
    | refine LeO.ite ?_ ?_
    | refine LeO.bind ?_ (fun _ => ?_)
theorem Zy.mono : ∀ a0 k,LeO (Zy.f k a0) (Zy.f (k + 1) a0) := by
 intro a0 k;obtain ⟨ih0,ih1,ih2⟩ := Zy.Xm k;unfold Zy.f
 repeat' first
  | (with_reducible exact ih0 _ _)
  | (with_reducible exact ih1 _ _ _ _)
  | (with_reducible exact ih2 _ _ _ _ _ _ _ _ _)
  | (with_reducible exact LeO.refl _)
  | (with_reducible exact LeO.none _)
  | (with_reducible refine LeO.ite ?_ ?_)
  | (with_reducible refine LeO.bind ?_ (fun _ => ?_))
  | exact ih0 _ _
  | exact ih1 _ _ _ _
  | exact ih2 _ _ _ _ _ _ _ _ _
  | exact LeO.none _
  | refine LeO.ite ?_ ?_
  | refine LeO.bind ?_ (fun _ => ?_)
def Zy.T6 : Bool × List (List Nat × List Nat) := (true,[([],[]),([0],[0]),([1],[1]),([2],[2]),([3,2],[3]),([4],[4]),([5,4],[4,5]),([6,4,4],[4,6]),([7,4],[4,7]),([4,8],[4,8]),([9,7],[9]),([10],[10]),([11,10],[10,11]),([12,10,10],[10,12]),([13,10],[10,13]),([10,14],[10,14]),([15,13],[15]),([16],[16]),([17,16],[16,17]),([18,16,16],[16,18]),([19],[19]),([19],[19]),([21,19],[19,21]),([20,22,19],[19,20,22]),([23,19],[19,23]),([24,19],[19,24]),([19],[19]),([26,19],[19,26]),([25,27,19],[19,25,27]),([19,28,16],[16,19,28]),([16,29],[16,29])])
def Zy.B6 : List Nat := [0,1,3,7,15,31,63,127,255,511,1023,2047,4095,8191,16383,32767,65535,131071,262143,524287,1048575,1048575,3145727,8388607,16777215,33554431,1048575,68157439,268435455,536870911,1073741823]
theorem Zy.tab6 : rtab .any (opsOf Try.f25 6) = Zy.T6 := by kernel_rfl
theorem Zy.bits6 : waitsOk Zy.T6.2 Zy.B6 = true := by kernel_rfl
def Zy.T8 : Bool × List (List Nat × List Nat) := (true,[([],[]),([0],[0]),([1],[1]),([2],[2]),([3],[3]),([3],[3]),([5,3],[3,5]),([4,6,3],[3,4,6]),([7,3],[3,7]),([8,3],[3,8]),([3],[3]),([10,3],[3,10]),([9,11,3],[3,9,11]),([12,3],[3,12]),([3,13],[3,13])])
def Zy.B8 : List Nat := [0,1,3,7,15,15,47,127,255,511,15,1039,4095,8191,16383]
theorem Zy.tab8 : rtab .any (opsOf Try.f25 8) = Zy.T8 := by kernel_rfl
theorem Zy.bits8 : waitsOk Zy.T8.2 Zy.B8 = true := by kernel_rfl
set_option maxHeartbeats 8000000 in
set_option maxRecDepth 100000 in
theorem Zy.calls (k : Nat) (A0 : Option Addr) (c0 : Nat) (l0 : List (S27)) (r : Bool) (w : World) (hr0 : Kd.C k27 w A0 l0.length l0) (hc0 : l0.length ≤ c0) (h : Zy.f k l0 = some r) :
 Calls Try.prog 25 #[.slice A0 l0.length c0] w fun e w' => e = .returned (.bool r) ∧ Below w.heap.size w w' := by
 have hu27 := Try.underlying27;have HR0 := Zd.mk hr0;have HC0 := Zd.mk hc0;clear hr0 hc0;have HB := Zd.mk (Below.refl w.heap.size w);have H : ((Z1.f (l0.length : Int) 1 50).bind fun t108 => (if t108 = true then (if 0 < (l0.length : Int) then (if ((Zf l0 0).f0) = 0 then (if 0 ≤ (wrap64 ((l0.length : Int) - 1)) then (if (wrap64 ((l0.length : Int) - 1)) < (l0.length : Int) then (Zy.j0 k l0 (((Zf l0 (wrap64 ((l0.length : Int) - 1))).f2) != 0)) else (none)) else (none)) else (Zy.j0 k l0 true)) else (none)) else (Zy.j0 k l0 true))) = some r := h;clear h;have HC2 := Zd.mk H;clear H
 go_enter Try.func25,Try.ntmps25
 go_upto_region 1 with (fail)
 go_cut [25] (fun v25 wc => ∃ (kq : Nat) (x25_1 : Bool),v25 = .bool x25_1 ∧ Zd (Zy.j0 kq l0 x25_1 = some r) ∧ Zd (kq ≤ k) ∧ Zd (Below w.heap.size w wc))
 case first =>
  have H := HC2.out;clear HC2;replace H := Option.bind_eq_some_iff.mp H;obtain ⟨t108,A30,H⟩ := H;replace H : (if t108 = true then (if 0 < (l0.length : Int) then (if ((Zf l0 0).f0) = 0 then (if 0 ≤ (wrap64 ((l0.length : Int) - 1)) then (if (wrap64 ((l0.length : Int) - 1)) < (l0.length : Int) then (Zy.j0 k l0 (((Zf l0 (wrap64 ((l0.length : Int) - 1))).f2) != 0)) else (none)) else (none)) else (Zy.j0 k l0 true)) else (none)) else (Zy.j0 k l0 true)) = some r := H;have A3 := Zd.mk A30;clear A30
  by_cases c4 : t108 = true
  · subst c4
    have H1 : (if 0 < (l0.length : Int) then (if ((Zf l0 0).f0) = 0 then (if 0 ≤ (wrap64 ((l0.length : Int) - 1)) then (if (wrap64 ((l0.length : Int) - 1)) < (l0.length : Int) then (Zy.j0 k l0 (((Zf l0 (wrap64 ((l0.length : Int) - 1))).f2) != 0)) else (none)) else (none)) else (Zy.j0 k l0 true)) else (none)) = some r := by rw [if_pos rfl] at H;exact H
    clear H;have H := H1;clear H1
    by_cases c5 : 0 < (l0.length : Int)
    · rw [if_pos c5] at H
      have c5b0 : decide (0 < (l0.length : Int)) = true := decide_eq_true c5;have c5b1 : decide (0 < l0.length) = true := decide_eq_true (by omega);clear c5
      (first | rw [c5b0] | (simp only [i64_w,i32_w];rw [c5b0]) | skip)
      by_cases c6 : ((Zf l0 0).f0) = 0
      · rw [if_pos c6] at H
        have c6b0 : (((Zf l0 0).f0) == 0) = true := beq_iff_eq.mpr c6;have c6b1 : (((Zf l0 0).f0) != 0) = false := bne_eq_false_iff_eq.mpr c6;clear c6
        obtain ⟨ji7,hji7⟩ : ∃ j_ : Int,(wrap64 ((l0.length : Int) - 1)) = j_ := ⟨_,rfl⟩
        replace H : (if 0 ≤ (ji7) then (if (ji7) < (l0.length : Int) then (Zy.j0 k l0 (((Zf l0 (ji7)).f2) != 0)) else (none)) else (none)) = some r := by first | (rw [hji7] at H;exact H) | (simp only [hji7] at H ⊢;exact H)
        (try rw [hji7] at A3)
        have hji7w : (IntKind.i64.wrap ((l0.length : Int) - 1)) = ji7 := (i64_w _).trans hji7
        by_cases c8 : 0 ≤ (ji7)
        · rw [if_pos c8] at H
          have c8b0 : decide (0 ≤ (ji7)) = true := decide_eq_true c8;clear c8
          by_cases c9 : (ji7) < (l0.length : Int)
          · rw [if_pos c9] at H
            have c9b0 : decide ((ji7) < (l0.length : Int)) = true := decide_eq_true c9;clear c9;have H' := Zd.mk H;clear H
            go_wp2_with (first | ((with_reducible refine Z2 (f := 43) rfl ?_);refine ZP (some 7) rfl rfl Try.func43 (by kernel_rfl) rfl #[.int .i64 (l0.length : Int),.int .i64 1,.int .i64 50] rfl (by (try simp only [List.map_toArray,List.map_cons,List.map_nil]);first | done | rfl | (simp only [List.length_drop,List.length_take];rfl)) ?_;(with_reducible refine (Z1.calls (l0.length : Int) 1 50 true _ A3.out).mono ?_);rintro e w' ⟨rfl,⟨nd,rfl⟩⟩;refine ⟨_,rfl,?_⟩;have p109 : 0 ≤ (0 : Int) := (by omega);have q109 : 0 < (l0.length : Int) := of_decide_eq_true (by first | (with_reducible assumption) | assumption);obtain ⟨ad109,e109,hx109_0,hx109_1,hx109_2⟩ := Xo HR0.out 0 p109 q109;cases e109;have qi109 : (0 < l0.length) = True := eq_true (by omega);(try rw [show ((0 : Int)).toNat = 0 from rfl] at hx109_0);(try rw [show 0 * 3 = 0 from rfl] at hx109_0);(try rw [Addr.add_zero'] at hx109_0);(try rw [show ((0 : Int)).toNat = 0 from rfl] at hx109_1);(try rw [show 0 * 3 = 0 from rfl] at hx109_1);(try rw [Addr.add_zero'] at hx109_1);(try rw [show ((0 : Int)).toNat = 0 from rfl] at hx109_2);(try rw [show 0 * 3 = 0 from rfl] at hx109_2);(try rw [Addr.add_zero'] at hx109_2);replace hx109_0 := (HB.out.cell (World.block_lt_of_cell? w _ hx109_0)).trans hx109_0;replace hx109_1 := (HB.out.cell (World.block_lt_of_cell? w _ hx109_1)).trans hx109_1;replace hx109_2 := (HB.out.cell (World.block_lt_of_cell? w _ hx109_2)).trans hx109_2;replace p109 := eq_true p109;replace q109 := eq_true q109;have p110 : 0 ≤ ((ji7) : Int) := of_decide_eq_true (by first | (with_reducible assumption) | assumption);have q110 : (ji7) < (l0.length : Int) := of_decide_eq_true (by first | (with_reducible assumption) | assumption);obtain ⟨ad110,e110,hx110_0,hx110_1,hx110_2⟩ := Xo HR0.out (ji7) p110 q110;obtain rfl : ad109 = ad110 := (by injection e110);replace hx110_0 := (HB.out.cell (World.block_lt_of_cell? w _ hx110_0)).trans hx110_0;replace hx110_1 := (HB.out.cell (World.block_lt_of_cell? w _ hx110_1)).trans hx110_1;replace hx110_2 := (HB.out.cell (World.block_lt_of_cell? w _ hx110_2)).trans hx110_2;replace p110 := eq_true p110;replace q110 := eq_true q110))
            go_meet
            case rel => exact ⟨_,((((Zf l0 (ji7)).f2) != 0)),(by first | rfl | (simp;done) | (simp only [← hji7] <;> (first | rfl | simp)) | (simp [*];done)),H',⟨by first | omega | exact Nat.le_refl _⟩,⟨by repeat (first | (with_reducible first | exact HB.out | apply Zc | apply Za | apply Zb) | exact HB.out)⟩⟩
          · rw [if_neg c9] at H
            exact absurd H (by simp)
        · rw [if_neg c8] at H
          exact absurd H (by simp)
      · rw [if_neg c6] at H
        have c6b0 : (((Zf l0 0).f0) == 0) = false := beq_eq_false_iff_ne.mpr c6;have c6b1 : (((Zf l0 0).f0) != 0) = true := bne_iff_ne.mpr c6;have H' := Zd.mk H;clear H
        go_wp2_with (first | ((with_reducible refine Z2 (f := 43) rfl ?_);refine ZP (some 7) rfl rfl Try.func43 (by kernel_rfl) rfl #[.int .i64 (l0.length : Int),.int .i64 1,.int .i64 50] rfl (by (try simp only [List.map_toArray,List.map_cons,List.map_nil]);first | done | rfl | (simp only [List.length_drop,List.length_take];rfl)) ?_;(with_reducible refine (Z1.calls (l0.length : Int) 1 50 true _ A3.out).mono ?_);rintro e w' ⟨rfl,⟨nd,rfl⟩⟩;refine ⟨_,rfl,?_⟩;have p109 : 0 ≤ (0 : Int) := (by omega);have q109 : 0 < (l0.length : Int) := of_decide_eq_true (by first | (with_reducible assumption) | assumption);obtain ⟨ad109,e109,hx109_0,hx109_1,hx109_2⟩ := Xo HR0.out 0 p109 q109;cases e109;have qi109 : (0 < l0.length) = True := eq_true (by omega);(try rw [show ((0 : Int)).toNat = 0 from rfl] at hx109_0);(try rw [show 0 * 3 = 0 from rfl] at hx109_0);(try rw [Addr.add_zero'] at hx109_0);(try rw [show ((0 : Int)).toNat = 0 from rfl] at hx109_1);(try rw [show 0 * 3 = 0 from rfl] at hx109_1);(try rw [Addr.add_zero'] at hx109_1);(try rw [show ((0 : Int)).toNat = 0 from rfl] at hx109_2);(try rw [show 0 * 3 = 0 from rfl] at hx109_2);(try rw [Addr.add_zero'] at hx109_2);replace hx109_0 := (HB.out.cell (World.block_lt_of_cell? w _ hx109_0)).trans hx109_0;replace hx109_1 := (HB.out.cell (World.block_lt_of_cell? w _ hx109_1)).trans hx109_1;replace hx109_2 := (HB.out.cell (World.block_lt_of_cell? w _ hx109_2)).trans hx109_2;replace p109 := eq_true p109;replace q109 := eq_true q109))
        go_meet
        case rel => exact ⟨_,(true),(by first | rfl | (simp;done) | (simp [*];done)),H',⟨by first | omega | exact Nat.le_refl _⟩,⟨by repeat (first | (with_reducible first | exact HB.out | apply Zc | apply Za | apply Zb) | exact HB.out)⟩⟩
    · rw [if_neg c5] at H
      exact absurd H (by simp)
  · replace c4 := Bool.eq_false_iff.mpr c4
    subst c4
    have H1 : (Zy.j0 k l0 true) = some r := by rw [if_neg (show ¬ (false = true) by decide)] at H;exact H
    clear H;have H := H1;clear H1;have H' := Zd.mk H;clear H
    go_wp2_with (first | ((with_reducible refine Z2 (f := 43) rfl ?_);refine ZP (some 7) rfl rfl Try.func43 (by kernel_rfl) rfl #[.int .i64 (l0.length : Int),.int .i64 1,.int .i64 50] rfl (by (try simp only [List.map_toArray,List.map_cons,List.map_nil]);first | done | rfl | (simp only [List.length_drop,List.length_take];rfl)) ?_;(with_reducible refine (Z1.calls (l0.length : Int) 1 50 false _ A3.out).mono ?_);rintro e w' ⟨rfl,⟨nd,rfl⟩⟩;refine ⟨_,rfl,?_⟩))
    go_meet
    case rel => exact ⟨_,(true),(by first | rfl | (simp;done) | (simp [*];done)),H',⟨by first | omega | exact Nat.le_refl _⟩,⟨by repeat (first | (with_reducible first | exact HB.out | apply Zc | apply Za | apply Zb) | exact HB.out)⟩⟩
 case rest =>
  clear HC2
  (try clear p1); (try clear q1); (try clear hx1); (try clear qi1); (try clear c2); (try clear p2); (try clear c4); (try clear c5); (try clear c5b0); (try clear c5b1); (try clear c6); (try clear c6b0); (try clear c6b1); (try clear p6); (try clear c8); (try clear c8b0); (try clear c9); (try clear c9b0); (try clear hx109_0); (try clear hx109_1); (try clear hx109_2); (try clear hx110_0); (try clear hx110_1); (try clear hx110_2); (try clear p109); (try clear p110); (try clear q109); (try clear q110)
  obtain ⟨kq,x25_1,rfl,HA,HJ1,HB⟩ := hcut
  cases kq with
  | zero => exact absurd HA.out (by simp [Zy.j0])
  | succ kj1 =>
   have H := HA.out;clear HA;simp only [Zy.j0] at H
   by_cases c10 : x25_1 = true
   · subst c10
     have H1 : (some false) = some r := by rw [if_pos rfl] at H;exact H
     clear H;have H := H1;clear H1;obtain rfl := Option.some.inj H
     go_wp2
     go_ret;exact ⟨by first | rfl | (simp [Zt,Zv] <;> rfl) | (simp [*,Zt,Zv] <;> rfl),by repeat (first | (with_reducible first | exact HB.out | apply Zc | apply Za | apply Zb) | exact HB.out)⟩
   · replace c10 := Bool.eq_false_iff.mpr c10
     subst c10
     have H1 : (Zy.l0 kj1 l0 l0 (l0.length : Int) 0) = some r := by rw [if_neg (show ¬ (false = true) by decide)] at H;exact H
     clear H;have H := H1;clear H1;have H' := Zd.mk H;clear H
     go_wp2
     go_loopg [28] kj1 (fun kq v28 w' => ∃ (x28_2 : Int),v28 = .int .i64 x28_2 ∧ Zd (Zy.l0 kq l0 l0 (l0.length : Int) x28_2 = some r) ∧ Zd (kq ≤ kj1) ∧ Zd (Below w.heap.size w w'))
     case atStart => exact ⟨(0),(by first | rfl | (simp;done) | (simp [*];done)),H',⟨Nat.le_refl _⟩,⟨by repeat (first | (with_reducible first | exact HB.out | apply Zc | apply Za | apply Zb) | exact HB.out)⟩⟩
     case round =>
      clear H'
      (try clear c1); (try clear p1); (try clear q1); (try clear hx1); (try clear qi1); (try clear c2); (try clear p2); (try clear c4); (try clear c5); (try clear c5b0); (try clear c5b1); (try clear c6); (try clear c6b0); (try clear c6b1); (try clear p6); (try clear c8); (try clear c8b0); (try clear c9); (try clear c9b0); (try clear c10); (try clear p10); (try clear q10); (try clear hx10); (try clear qi10); (try clear hx109_0); (try clear hx109_1); (try clear hx109_2); (try clear hx110_0); (try clear hx110_1); (try clear hx110_2); (try clear p1); (try clear p109); (try clear p110); (try clear p2); (try clear p6); (try clear q1); (try clear q109); (try clear q110)
      obtain ⟨x28_2,rfl,HA,HK2,HB⟩ := hrel
      cases gk with
      | zero => exact absurd HA.out (by simp [Zy.l0])
      | succ k2 =>
       have H := HA.out;clear HA;simp only [Zy.l0] at H
       by_cases c11 : x28_2 < (l0.length : Int)
       · rw [if_pos c11] at H
         have c11b0 : decide (x28_2 < (l0.length : Int)) = true := decide_eq_true c11;clear c11
         by_cases c12 : 0 ≤ x28_2
         · rw [if_pos c12] at H
           have c12b0 : decide (0 ≤ x28_2) = true := decide_eq_true c12;clear c12
           by_cases c13 : x28_2 < (l0.length : Int)
           · rw [if_pos c13] at H
             have c13b0 : decide (x28_2 < (l0.length : Int)) = true := decide_eq_true c13;clear c13;have HC14 := Zd.mk H;clear H;have p111 : 0 ≤ (x28_2 : Int) := of_decide_eq_true (by first | (with_reducible assumption) | assumption);have q111 : x28_2 < (l0.length : Int) := of_decide_eq_true (by first | (with_reducible assumption) | assumption);obtain ⟨ad111,e111,hx111_0,hx111_1,hx111_2⟩ := Xo HR0.out x28_2 p111 q111
             cases e111
             replace hx111_0 := (HB.out.cell (World.block_lt_of_cell? w _ hx111_0)).trans hx111_0;replace hx111_1 := (HB.out.cell (World.block_lt_of_cell? w _ hx111_1)).trans hx111_1;replace hx111_2 := (HB.out.cell (World.block_lt_of_cell? w _ hx111_2)).trans hx111_2;replace p111 := eq_true p111;replace q111 := eq_true q111
             go_upto_region 6 with (first | ((with_reducible refine Xq (N := 4) rfl ?_);(try (refine XD (by rfl) ?_;dsimp only));refine Xy ?hg (N := 4) ?hd (cs := #[.int .i64 0,.int .i64 0,.int .i64 0]) (t := 27) ?hr ?_;(case hd => rfl);(case hg => rfl);(case hr => first | (go_simp;done) | (go_simp;rfl));intro gb112 hg w15 hbox hb;have n0_ := Zd.mk (Z0 (by repeat (first | (with_reducible first | exact HB.out | apply Zc | apply Za | apply Zb) | exact HB.out)) hb);have n1_ := Zd.mk (hbox);have n2_ := Zd.mk ((by rw [hg];exact (ZJ (by repeat (first | (with_reducible first | exact HB.out | apply Zc | apply Za | apply Zb) | exact HB.out))) : w.heap.size ≤ gb112));have n3_ := Zd.mk ((by rw [hg];exact (ZJ (by repeat (first | (with_reducible first | exact HB.out | apply Zc | apply Za | apply Zb) | exact HB.out))) : w.heap.size ≤ gb112));clear HB;have HB := n0_;have BK112 := n1_;have GW112 := n2_;have GE112 := n3_;clear n0_ n1_ n2_ n3_;clear hb hbox hg;have hcz16_0 : w15.cell? ⟨gb112,0,none⟩ = some (.int .i64 0) := (Zm BK112.out 0).trans rfl;have hcz16_1 : w15.cell? ⟨gb112,1,none⟩ = some (.int .i64 0) := (Zm BK112.out 1).trans rfl;have hcz16_2 : w15.cell? ⟨gb112,2,none⟩ = some (.int .i64 0) := (Zm BK112.out 2).trans rfl;have hfz16_0 := Zr BK112.out 0;have hfz16_1 := Zr BK112.out 1;have hfz16_2 := Zr BK112.out 2))
             (try simp only [Act.put,YV,YW,YX])
             go_cut [63] (fun v63 wc => ∃ (kq : Nat) (x63_13 : Bool),v63 = .bool x63_13 ∧ Zd (Zy.j2 kq l0 x28_2 l0 (l0.length : Int) x28_2 x63_13 ((Zf l0 x28_2).f0) ((Zf l0 x28_2).f1) ((Zf l0 x28_2).f2) = some r) ∧ Zd (kq ≤ k2) ∧ Zd (wc.heap[gb112]? = some (.cells #[.int .i64 ((Zf l0 x28_2).f0),.int .i64 ((Zf l0 x28_2).f1),.int .i64 ((Zf l0 x28_2).f2)] 27 (0,0))) ∧ Zd (Below w.heap.size w wc))
             case first =>
              have H := HC14.out;clear HC14;replace H := Option.bind_eq_some_iff.mp H;obtain ⟨t113,A170,H⟩ := H;replace H : (if t113 = true then ((Z1.f ((Zf l0 x28_2).f2) 0 1).bind fun t114 => (if t114 = true then ((Z1.f ((Zf l0 x28_2).f0) 0 1000000000).bind fun t115 => (if t115 = true then (if x28_2 > 0 then (if 0 ≤ (wrap64 (x28_2 - 1)) then (if (wrap64 (x28_2 - 1)) < (l0.length : Int) then (Zy.j2 k2 l0 x28_2 l0 (l0.length : Int) x28_2 (decide (((Zf l0 (wrap64 (x28_2 - 1))).f0) ≥ ((Zf l0 x28_2).f0))) ((Zf l0 x28_2).f0) ((Zf l0 x28_2).f1) ((Zf l0 x28_2).f2)) else (none)) else (none)) else (Zy.j2 k2 l0 x28_2 l0 (l0.length : Int) x28_2 false ((Zf l0 x28_2).f0) ((Zf l0 x28_2).f1) ((Zf l0 x28_2).f2))) else (Zy.j2 k2 l0 x28_2 l0 (l0.length : Int) x28_2 true ((Zf l0 x28_2).f0) ((Zf l0 x28_2).f1) ((Zf l0 x28_2).f2)))) else (Zy.j2 k2 l0 x28_2 l0 (l0.length : Int) x28_2 true ((Zf l0 x28_2).f0) ((Zf l0 x28_2).f1) ((Zf l0 x28_2).f2)))) else (Zy.j2 k2 l0 x28_2 l0 (l0.length : Int) x28_2 true ((Zf l0 x28_2).f0) ((Zf l0 x28_2).f1) ((Zf l0 x28_2).f2))) = some r := H;have A17 := Zd.mk A170;clear A170
              by_cases c18 : t113 = true
              · subst c18
                have H1 : ((Z1.f ((Zf l0 x28_2).f2) 0 1).bind fun t114 => (if t114 = true then ((Z1.f ((Zf l0 x28_2).f0) 0 1000000000).bind fun t115 => (if t115 = true then (if x28_2 > 0 then (if 0 ≤ (wrap64 (x28_2 - 1)) then (if (wrap64 (x28_2 - 1)) < (l0.length : Int) then (Zy.j2 k2 l0 x28_2 l0 (l0.length : Int) x28_2 (decide (((Zf l0 (wrap64 (x28_2 - 1))).f0) ≥ ((Zf l0 x28_2).f0))) ((Zf l0 x28_2).f0) ((Zf l0 x28_2).f1) ((Zf l0 x28_2).f2)) else (none)) else (none)) else (Zy.j2 k2 l0 x28_2 l0 (l0.length : Int) x28_2 false ((Zf l0 x28_2).f0) ((Zf l0 x28_2).f1) ((Zf l0 x28_2).f2))) else (Zy.j2 k2 l0 x28_2 l0 (l0.length : Int) x28_2 true ((Zf l0 x28_2).f0) ((Zf l0 x28_2).f1) ((Zf l0 x28_2).f2)))) else (Zy.j2 k2 l0 x28_2 l0 (l0.length : Int) x28_2 true ((Zf l0 x28_2).f0) ((Zf l0 x28_2).f1) ((Zf l0 x28_2).f2)))) = some r := by rw [if_pos rfl] at H;exact H
                clear H;have H := H1;clear H1;replace H := Option.bind_eq_some_iff.mp H;obtain ⟨t114,A190,H⟩ := H;replace H : (if t114 = true then ((Z1.f ((Zf l0 x28_2).f0) 0 1000000000).bind fun t115 => (if t115 = true then (if x28_2 > 0 then (if 0 ≤ (wrap64 (x28_2 - 1)) then (if (wrap64 (x28_2 - 1)) < (l0.length : Int) then (Zy.j2 k2 l0 x28_2 l0 (l0.length : Int) x28_2 (decide (((Zf l0 (wrap64 (x28_2 - 1))).f0) ≥ ((Zf l0 x28_2).f0))) ((Zf l0 x28_2).f0) ((Zf l0 x28_2).f1) ((Zf l0 x28_2).f2)) else (none)) else (none)) else (Zy.j2 k2 l0 x28_2 l0 (l0.length : Int) x28_2 false ((Zf l0 x28_2).f0) ((Zf l0 x28_2).f1) ((Zf l0 x28_2).f2))) else (Zy.j2 k2 l0 x28_2 l0 (l0.length : Int) x28_2 true ((Zf l0 x28_2).f0) ((Zf l0 x28_2).f1) ((Zf l0 x28_2).f2)))) else (Zy.j2 k2 l0 x28_2 l0 (l0.length : Int) x28_2 true ((Zf l0 x28_2).f0) ((Zf l0 x28_2).f1) ((Zf l0 x28_2).f2))) = some r := H;have A19 := Zd.mk A190;clear A190
                by_cases c20 : t114 = true
                · subst c20
                  have H1 : ((Z1.f ((Zf l0 x28_2).f0) 0 1000000000).bind fun t115 => (if t115 = true then (if x28_2 > 0 then (if 0 ≤ (wrap64 (x28_2 - 1)) then (if (wrap64 (x28_2 - 1)) < (l0.length : Int) then (Zy.j2 k2 l0 x28_2 l0 (l0.length : Int) x28_2 (decide (((Zf l0 (wrap64 (x28_2 - 1))).f0) ≥ ((Zf l0 x28_2).f0))) ((Zf l0 x28_2).f0) ((Zf l0 x28_2).f1) ((Zf l0 x28_2).f2)) else (none)) else (none)) else (Zy.j2 k2 l0 x28_2 l0 (l0.length : Int) x28_2 false ((Zf l0 x28_2).f0) ((Zf l0 x28_2).f1) ((Zf l0 x28_2).f2))) else (Zy.j2 k2 l0 x28_2 l0 (l0.length : Int) x28_2 true ((Zf l0 x28_2).f0) ((Zf l0 x28_2).f1) ((Zf l0 x28_2).f2)))) = some r := by rw [if_pos rfl] at H;exact H
                  clear H;have H := H1;clear H1;replace H := Option.bind_eq_some_iff.mp H;obtain ⟨t115,A210,H⟩ := H;replace H : (if t115 = true then (if x28_2 > 0 then (if 0 ≤ (wrap64 (x28_2 - 1)) then (if (wrap64 (x28_2 - 1)) < (l0.length : Int) then (Zy.j2 k2 l0 x28_2 l0 (l0.length : Int) x28_2 (decide (((Zf l0 (wrap64 (x28_2 - 1))).f0) ≥ ((Zf l0 x28_2).f0))) ((Zf l0 x28_2).f0) ((Zf l0 x28_2).f1) ((Zf l0 x28_2).f2)) else (none)) else (none)) else (Zy.j2 k2 l0 x28_2 l0 (l0.length : Int) x28_2 false ((Zf l0 x28_2).f0) ((Zf l0 x28_2).f1) ((Zf l0 x28_2).f2))) else (Zy.j2 k2 l0 x28_2 l0 (l0.length : Int) x28_2 true ((Zf l0 x28_2).f0) ((Zf l0 x28_2).f1) ((Zf l0 x28_2).f2))) = some r := H;have A21 := Zd.mk A210;clear A210
                  by_cases c22 : t115 = true
                  · subst c22
                    have H1 : (if x28_2 > 0 then (if 0 ≤ (wrap64 (x28_2 - 1)) then (if (wrap64 (x28_2 - 1)) < (l0.length : Int) then (Zy.j2 k2 l0 x28_2 l0 (l0.length : Int) x28_2 (decide (((Zf l0 (wrap64 (x28_2 - 1))).f0) ≥ ((Zf l0 x28_2).f0))) ((Zf l0 x28_2).f0) ((Zf l0 x28_2).f1) ((Zf l0 x28_2).f2)) else (none)) else (none)) else (Zy.j2 k2 l0 x28_2 l0 (l0.length : Int) x28_2 false ((Zf l0 x28_2).f0) ((Zf l0 x28_2).f1) ((Zf l0 x28_2).f2))) = some r := by rw [if_pos rfl] at H;exact H
                    clear H;have H := H1;clear H1
                    by_cases c23 : x28_2 > 0
                    · rw [if_pos c23] at H
                      have c23b0 : decide (0 < x28_2) = true := decide_eq_true c23;clear c23
                      (first | rw [c23b0] | (simp only [i64_w,i32_w];rw [c23b0]) | skip)
                      obtain ⟨ji24,hji24⟩ : ∃ j_ : Int,(wrap64 (x28_2 - 1)) = j_ := ⟨_,rfl⟩
                      replace H : (if 0 ≤ (ji24) then (if (ji24) < (l0.length : Int) then (Zy.j2 k2 l0 x28_2 l0 (l0.length : Int) x28_2 (decide (((Zf l0 (ji24)).f0) ≥ ((Zf l0 x28_2).f0))) ((Zf l0 x28_2).f0) ((Zf l0 x28_2).f1) ((Zf l0 x28_2).f2)) else (none)) else (none)) = some r := by first | (rw [hji24] at H;exact H) | (simp only [hji24] at H ⊢;exact H)
                      (try rw [hji24] at A17)
                      (try rw [hji24] at A19)
                      (try rw [hji24] at A21)
                      have hji24w : (IntKind.i64.wrap (x28_2 - 1)) = ji24 := (i64_w _).trans hji24
                      by_cases c25 : 0 ≤ (ji24)
                      · rw [if_pos c25] at H
                        have c25b0 : decide (0 ≤ (ji24)) = true := decide_eq_true c25;clear c25
                        by_cases c26 : (ji24) < (l0.length : Int)
                        · rw [if_pos c26] at H
                          have c26b0 : decide ((ji24) < (l0.length : Int)) = true := decide_eq_true c26;clear c26;have H' := Zd.mk H;clear H
                          try go_wp2
                          have n0_ : Zd ((((w15.setCell ⟨gb112,0,none⟩ (.int .i64 ((Zf l0 x28_2).f0))).setCell ⟨gb112,1,none⟩ (.int .i64 ((Zf l0 x28_2).f1))).setCell ⟨gb112,2,none⟩ (.int .i64 ((Zf l0 x28_2).f2))).heap[gb112]? = some (.cells #[.int .i64 ((Zf l0 x28_2).f0),.int .i64 ((Zf l0 x28_2).f1),.int .i64 ((Zf l0 x28_2).f2)] 27 (0,0))) := ⟨by (with_reducible repeat (first | refine Zu ?_ _ | refine Zw ?_ | refine Zs ?_ _));refine ZE (cs := #[.int .i64 ((Zf l0 x28_2).f0),.int .i64 ((Zf l0 x28_2).f1),.int .i64 0]) ?_ 2 _ rfl;(with_reducible repeat (first | refine Zu ?_ _ | refine Zw ?_ | refine Zs ?_ _));refine ZE (cs := #[.int .i64 ((Zf l0 x28_2).f0),.int .i64 0,.int .i64 0]) ?_ 1 _ rfl;(with_reducible repeat (first | refine Zu ?_ _ | refine Zw ?_ | refine Zs ?_ _));refine ZE (cs := #[.int .i64 0,.int .i64 0,.int .i64 0]) ?_ 0 _ rfl;(with_reducible repeat (first | refine Zu ?_ _ | refine Zw ?_ | refine Zs ?_ _));exact BK112.out⟩
                          have n1_ : Zd (Below w.heap.size w (((w15.setCell ⟨gb112,0,none⟩ (.int .i64 ((Zf l0 x28_2).f0))).setCell ⟨gb112,1,none⟩ (.int .i64 ((Zf l0 x28_2).f1))).setCell ⟨gb112,2,none⟩ (.int .i64 ((Zf l0 x28_2).f2)))) := ⟨by repeat (first | (with_reducible first | exact HB.out | apply Zc | apply Za | apply Zb | refine Z9 ?_ GE112.out) | exact HB.out)⟩
                          (try clear BK112)
                          (try clear HB)
                          generalize (((w15.setCell ⟨gb112,0,none⟩ (.int .i64 ((Zf l0 x28_2).f0))).setCell ⟨gb112,1,none⟩ (.int .i64 ((Zf l0 x28_2).f1))).setCell ⟨gb112,2,none⟩ (.int .i64 ((Zf l0 x28_2).f2))) = w27 at n0_ n1_ ⊢;have BK112 := n0_;have HB := n1_;clear n0_ n1_;have n0_ := Zd.mk (Zw BK112.out);have n1_ := Zd.mk (Zb HB.out);clear BK112;clear HB;have BK112 := n0_;have HB := n1_;clear n0_ n1_;have p116 : 0 ≤ ((ji24) : Int) := of_decide_eq_true (by first | (with_reducible assumption) | assumption);have q116 : (ji24) < (l0.length : Int) := of_decide_eq_true (by first | (with_reducible assumption) | assumption);obtain ⟨ad116,e116,hx116_0,hx116_1,hx116_2⟩ := Xo HR0.out (ji24) p116 q116;have hw116_2 := hx116_2;have hw116_1 := hx116_1;have hw116_0 := hx116_0
                          obtain rfl : ad111 = ad116 := (by injection e116)
                          replace hx116_0 := (HB.out.cell (World.block_lt_of_cell? w _ hx116_0)).trans hx116_0;replace hx116_1 := (HB.out.cell (World.block_lt_of_cell? w _ hx116_1)).trans hx116_1;replace hx116_2 := (HB.out.cell (World.block_lt_of_cell? w _ hx116_2)).trans hx116_2;replace p116 := eq_true p116;replace q116 := eq_true q116;refine XE (n := 31) (S := fun w' => w'.cell? ⟨gb112,0,none⟩ = some (.int .i64 ((Zf l0 x28_2).f0)) ∧ w'.cell? ⟨gb112,1,none⟩ = some (.int .i64 ((Zf l0 x28_2).f1)) ∧ w'.cell? ⟨gb112,2,none⟩ = some (.int .i64 ((Zf l0 x28_2).f2)) ∧ w'.cell? (ad111.add (((ji24)).toNat * 3)) = some (.int .i64 ((Zf l0 (ji24)).f0)) ∧ w'.cell? ⟨(ad111.add (((ji24)).toNat * 3)).block,(ad111.add (((ji24)).toNat * 3)).off + 1,none⟩ = some (.int .i64 ((Zf l0 (ji24)).f1)) ∧ w'.cell? ⟨(ad111.add (((ji24)).toNat * 3)).block,(ad111.add (((ji24)).toNat * 3)).off + 2,none⟩ = some (.int .i64 ((Zf l0 (ji24)).f2))) (ds := []) #[U,U,U,U,U,U,U,U,U,U,U,U,U,U,U,U,U,U,U,U,U,U,U,U,U,U,U,U,U,U,U] (by kernel_rfl) rfl rfl ⟨(Zm BK112.out 0).trans rfl,(Zm BK112.out 1).trans rfl,(Zm BK112.out 2).trans rfl,((HB.out.cell (World.block_lt_of_cell? w _ hw116_0)).trans hw116_0),((HB.out.cell (World.block_lt_of_cell? w _ hw116_1)).trans hw116_1),((HB.out.cell (World.block_lt_of_cell? w _ hw116_2)).trans hw116_2)⟩ (fun hHeld => ?_);refine X2 Zy.tab6 Zy.bits6 (fun HT_ HW_ => ?_);generalize w27.drew = w28 at BK112 HB hx116_0 hx116_1 hx116_2 hHeld ⊢;refine pure_ (i := 0) (N := some 33) (v := ?_) (a' := ?_) #[Y,U,U,U,U,U,U,U,U,U,U,U,U,U,U,U,U,U,U,U,U,U,U,U,U,U,U,U,U,U,U] rfl rfl (Zn HT_.out (by kernel_rfl)) (fun _ _ _ h => h) (Or.inl ⟨by rfl,?_⟩) ?_ ?_;rotate_left
                          · intro w'
                            go_simp;with_reducible rfl
                          rotate_left
                          · simp only [Act.put,YV,YW,YX,i64_w,i32_w]
                            rfl
                          refine take_ (i := 1) (N := some 34) (v := ?_) (a' := ?_) #[Y,Y,U,U,U,U,U,U,U,U,U,U,U,U,U,U,U,U,U,U,U,U,U,U,U,U,U,U,U,U,U] rfl rfl (Xh HT_.out HW_.out (by kernel_rfl)) (fun _ _ _ h => h) (Or.inl ⟨by rfl,?_⟩) hHeld ?_ ?_;rotate_left
                          · rintro w' ⟨s0,s1,s2,s3,s4,s5⟩
                            go_simp;with_reducible rfl
                          rotate_left
                          · simp only [Act.put,YV,YW,YX,i64_w,i32_w]
                            rfl
                          refine one_ (i := 2) (N := some 35) #[Y,Y,Y,U,U,U,U,U,U,U,U,U,U,U,U,U,U,U,U,U,U,U,U,U,U,U,U,U,U,U,U] rfl rfl (X7 HT_.out (by kernel_rfl)) (by decide) (fun K hK => ?_);refine goes_ Try.func43 (by kernel_rfl) rfl #[.int .i64 ((Zf l0 x28_2).f1),.int .i64 1,.int .i64 67108864] (by rfl) rfl rfl (by (try simp only [List.map_toArray,List.map_cons,List.map_nil]);first | done | rfl | (simp only [List.length_drop,List.length_take];rfl)) ?_
                          with_reducible refine (Z1.calls ((Zf l0 x28_2).f1) 1 67108864 true _ A17.out).mono ?_
                          rintro e w' ⟨rfl,⟨nd,rfl⟩⟩;refine ⟨_,rfl,?_⟩;refine hK.out _ _ ⟨(Zm BK112.out 0).trans rfl,(Zm BK112.out 1).trans rfl,(Zm BK112.out 2).trans rfl,((HB.out.cell (World.block_lt_of_cell? w _ hw116_0)).trans hw116_0),((HB.out.cell (World.block_lt_of_cell? w _ hw116_1)).trans hw116_1),((HB.out.cell (World.block_lt_of_cell? w _ hw116_2)).trans hw116_2)⟩ (fun hHeld => ?_);clear hK K;refine norm_ (a' := ?_) ?_ ?_;rotate_left
                          · show Act.put _ (some 35) _ = _
                            simp only [Act.put,YV,YW,YX,i64_w,i32_w];rfl
                          refine pure_ (i := 3) (N := some 36) (v := ?_) (a' := ?_) #[Y,Y,Y,Y,U,U,U,U,U,U,U,U,U,U,U,U,U,U,U,U,U,U,U,U,U,U,U,U,U,U,U] rfl rfl (Zn HT_.out (by kernel_rfl)) (fun _ _ _ h => h) (Or.inl ⟨by rfl,?_⟩) ?_ ?_;rotate_left
                          · intro w'
                            go_simp;with_reducible rfl
                          rotate_left
                          · simp only [Act.put,YV,YW,YX,i64_w,i32_w]
                            rfl
                          refine pure_ (i := 4) (N := some 37) (v := ?_) (a' := ?_) #[Y,Y,Y,Y,Y,U,U,U,U,U,U,U,U,U,U,U,U,U,U,U,U,U,U,U,U,U,U,U,U,U,U] rfl rfl (Zn HT_.out (by kernel_rfl)) (fun _ _ _ h => h) (Or.inl ⟨by rfl,?_⟩) ?_ ?_;rotate_left
                          · intro w'
                            go_simp;with_reducible rfl
                          rotate_left
                          · simp only [Act.put,YV,YW,YX,i64_w,i32_w]
                            rfl
                          refine pure_ (i := 5) (N := some 38) (v := ?_) (a' := ?_) #[Y,Y,Y,Y,Y,Y,U,U,U,U,U,U,U,U,U,U,U,U,U,U,U,U,U,U,U,U,U,U,U,U,U] rfl rfl (Zn HT_.out (by kernel_rfl)) (fun _ _ _ h => h) (Or.inl ⟨by rfl,?_⟩) ?_ ?_;rotate_left
                          · intro w'
                            go_simp;with_reducible rfl
                          rotate_left
                          · simp only [Act.put,YV,YW,YX,i64_w,i32_w]
                            rfl
                          refine take_ (i := 6) (N := some 39) (v := ?_) (a' := ?_) #[Y,Y,Y,Y,Y,Y,Y,U,U,U,U,U,U,U,U,U,U,U,U,U,U,U,U,U,U,U,U,U,U,U,U] rfl rfl (Xh HT_.out HW_.out (by kernel_rfl)) (fun _ _ _ h => h) (Or.inl ⟨by rfl,?_⟩) hHeld ?_ ?_;rotate_left
                          · rintro w' ⟨s0,s1,s2,s3,s4,s5⟩
                            go_simp;with_reducible rfl
                          rotate_left
                          · simp only [Act.put,YV,YW,YX,i64_w,i32_w]
                            rfl
                          refine one_ (i := 7) (N := some 40) #[Y,Y,Y,Y,Y,Y,Y,Y,U,U,U,U,U,U,U,U,U,U,U,U,U,U,U,U,U,U,U,U,U,U,U] rfl rfl (X7 HT_.out (by kernel_rfl)) (by decide) (fun K hK => ?_);refine goes_ Try.func43 (by kernel_rfl) rfl #[.int .i64 ((Zf l0 x28_2).f2),.int .i64 0,.int .i64 1] (by rfl) rfl rfl (by (try simp only [List.map_toArray,List.map_cons,List.map_nil]);first | done | rfl | (simp only [List.length_drop,List.length_take];rfl)) ?_
                          with_reducible refine (Z1.calls ((Zf l0 x28_2).f2) 0 1 true _ A19.out).mono ?_
                          rintro e w' ⟨rfl,⟨nd,rfl⟩⟩;refine ⟨_,rfl,?_⟩;refine hK.out _ _ ⟨(Zm BK112.out 0).trans rfl,(Zm BK112.out 1).trans rfl,(Zm BK112.out 2).trans rfl,((HB.out.cell (World.block_lt_of_cell? w _ hw116_0)).trans hw116_0),((HB.out.cell (World.block_lt_of_cell? w _ hw116_1)).trans hw116_1),((HB.out.cell (World.block_lt_of_cell? w _ hw116_2)).trans hw116_2)⟩ (fun hHeld => ?_);clear hK K;refine norm_ (a' := ?_) ?_ ?_;rotate_left
                          · show Act.put _ (some 40) _ = _
                            simp only [Act.put,YV,YW,YX,i64_w,i32_w];rfl
                          refine pure_ (i := 8) (N := some 41) (v := ?_) (a' := ?_) #[Y,Y,Y,Y,Y,Y,Y,Y,Y,U,U,U,U,U,U,U,U,U,U,U,U,U,U,U,U,U,U,U,U,U,U] rfl rfl (Zn HT_.out (by kernel_rfl)) (fun _ _ _ h => h) (Or.inl ⟨by rfl,?_⟩) ?_ ?_;rotate_left
                          · intro w'
                            go_simp;with_reducible rfl
                          rotate_left
                          · simp only [Act.put,YV,YW,YX,i64_w,i32_w]
                            rfl
                          refine pure_ (i := 9) (N := some 42) (v := ?_) (a' := ?_) #[Y,Y,Y,Y,Y,Y,Y,Y,Y,Y,U,U,U,U,U,U,U,U,U,U,U,U,U,U,U,U,U,U,U,U,U] rfl rfl (Zn HT_.out (by kernel_rfl)) (fun _ _ _ h => h) (Or.inl ⟨by rfl,?_⟩) ?_ ?_;rotate_left
                          · intro w'
                            go_simp;with_reducible rfl
                          rotate_left
                          · simp only [Act.put,YV,YW,YX,i64_w,i32_w]
                            rfl
                          refine pure_ (i := 10) (N := some 43) (v := ?_) (a' := ?_) #[Y,Y,Y,Y,Y,Y,Y,Y,Y,Y,Y,U,U,U,U,U,U,U,U,U,U,U,U,U,U,U,U,U,U,U,U] rfl rfl (Zn HT_.out (by kernel_rfl)) (fun _ _ _ h => h) (Or.inl ⟨by rfl,?_⟩) ?_ ?_;rotate_left
                          · intro w'
                            go_simp;with_reducible rfl
                          rotate_left
                          · simp only [Act.put,YV,YW,YX,i64_w,i32_w]
                            rfl
                          refine pure_ (i := 11) (N := some 44) (v := ?_) (a' := ?_) #[Y,Y,Y,Y,Y,Y,Y,Y,Y,Y,Y,Y,U,U,U,U,U,U,U,U,U,U,U,U,U,U,U,U,U,U,U] rfl rfl (Zn HT_.out (by kernel_rfl)) (fun _ _ _ h => h) (Or.inl ⟨by rfl,?_⟩) ?_ ?_;rotate_left
                          · intro w'
                            go_simp;with_reducible rfl
                          rotate_left
                          · simp only [Act.put,YV,YW,YX,i64_w,i32_w]
                            rfl
                          refine take_ (i := 12) (N := some 45) (v := ?_) (a' := ?_) #[Y,Y,Y,Y,Y,Y,Y,Y,Y,Y,Y,Y,Y,U,U,U,U,U,U,U,U,U,U,U,U,U,U,U,U,U,U] rfl rfl (Xh HT_.out HW_.out (by kernel_rfl)) (fun _ _ _ h => h) (Or.inl ⟨by rfl,?_⟩) hHeld ?_ ?_;rotate_left
                          · rintro w' ⟨s0,s1,s2,s3,s4,s5⟩
                            go_simp;with_reducible rfl
                          rotate_left
                          · simp only [Act.put,YV,YW,YX,i64_w,i32_w]
                            rfl
                          refine one_ (i := 13) (N := some 46) #[Y,Y,Y,Y,Y,Y,Y,Y,Y,Y,Y,Y,Y,Y,U,U,U,U,U,U,U,U,U,U,U,U,U,U,U,U,U] rfl rfl (X7 HT_.out (by kernel_rfl)) (by decide) (fun K hK => ?_);refine goes_ Try.func43 (by kernel_rfl) rfl #[.int .i64 ((Zf l0 x28_2).f0),.int .i64 0,.int .i64 1000000000] (by rfl) rfl rfl (by (try simp only [List.map_toArray,List.map_cons,List.map_nil]);first | done | rfl | (simp only [List.length_drop,List.length_take];rfl)) ?_
                          with_reducible refine (Z1.calls ((Zf l0 x28_2).f0) 0 1000000000 true _ A21.out).mono ?_
                          rintro e w' ⟨rfl,⟨nd,rfl⟩⟩;refine ⟨_,rfl,?_⟩;refine hK.out _ _ ⟨(Zm BK112.out 0).trans rfl,(Zm BK112.out 1).trans rfl,(Zm BK112.out 2).trans rfl,((HB.out.cell (World.block_lt_of_cell? w _ hw116_0)).trans hw116_0),((HB.out.cell (World.block_lt_of_cell? w _ hw116_1)).trans hw116_1),((HB.out.cell (World.block_lt_of_cell? w _ hw116_2)).trans hw116_2)⟩ (fun hHeld => ?_);clear hK K;refine norm_ (a' := ?_) ?_ ?_;rotate_left
                          · show Act.put _ (some 46) _ = _
                            simp only [Act.put,YV,YW,YX,i64_w,i32_w];rfl
                          refine pure_ (i := 14) (N := some 47) (v := ?_) (a' := ?_) #[Y,Y,Y,Y,Y,Y,Y,Y,Y,Y,Y,Y,Y,Y,Y,U,U,U,U,U,U,U,U,U,U,U,U,U,U,U,U] rfl rfl (Zn HT_.out (by kernel_rfl)) (fun _ _ _ h => h) (Or.inl ⟨by rfl,?_⟩) ?_ ?_;rotate_left
                          · intro w'
                            go_simp;with_reducible rfl
                          rotate_left
                          · simp only [Act.put,YV,YW,YX,i64_w,i32_w]
                            rfl
                          refine pure_ (i := 15) (N := some 48) (v := ?_) (a' := ?_) #[Y,Y,Y,Y,Y,Y,Y,Y,Y,Y,Y,Y,Y,Y,Y,Y,U,U,U,U,U,U,U,U,U,U,U,U,U,U,U] rfl rfl (Zn HT_.out (by kernel_rfl)) (fun _ _ _ h => h) (Or.inl ⟨by rfl,?_⟩) ?_ ?_;rotate_left
                          · intro w'
                            go_simp;with_reducible rfl
                          rotate_left
                          · simp only [Act.put,YV,YW,YX,i64_w,i32_w]
                            rfl
                          refine pure_ (i := 16) (N := some 49) (v := ?_) (a' := ?_) #[Y,Y,Y,Y,Y,Y,Y,Y,Y,Y,Y,Y,Y,Y,Y,Y,Y,U,U,U,U,U,U,U,U,U,U,U,U,U,U] rfl rfl (Zn HT_.out (by kernel_rfl)) (fun _ _ _ h => h) (Or.inl ⟨by rfl,?_⟩) ?_ ?_;rotate_left
                          · intro w'
                            go_simp;with_reducible rfl
                          rotate_left
                          · simp only [Act.put,YV,YW,YX,i64_w,i32_w]
                            rfl
                          refine pure_ (i := 17) (N := some 50) (v := ?_) (a' := ?_) #[Y,Y,Y,Y,Y,Y,Y,Y,Y,Y,Y,Y,Y,Y,Y,Y,Y,Y,U,U,U,U,U,U,U,U,U,U,U,U,U] rfl rfl (Zn HT_.out (by kernel_rfl)) (fun _ _ _ h => h) (Or.inl ⟨by rfl,?_⟩) ?_ ?_;rotate_left
                          · intro w'
                            go_simp;with_reducible rfl
                          rotate_left
                          · simp only [Act.put,YV,YW,YX,i64_w,i32_w]
                            rfl
                          refine pure_ (i := 18) (N := some 51) (v := ?_) (a' := ?_) #[Y,Y,Y,Y,Y,Y,Y,Y,Y,Y,Y,Y,Y,Y,Y,Y,Y,Y,Y,U,U,U,U,U,U,U,U,U,U,U,U] rfl rfl (Zn HT_.out (by kernel_rfl)) (fun _ _ _ h => h) (Or.inl ⟨by rfl,?_⟩) ?_ ?_;rotate_left
                          · intro w'
                            go_simp;with_reducible rfl
                          rotate_left
                          · simp only [Act.put,YV,YW,YX,i64_w,i32_w]
                            rfl
                          refine pure_ (i := 19) (N := some 52) (v := ?_) (a' := ?_) #[Y,Y,Y,Y,Y,Y,Y,Y,Y,Y,Y,Y,Y,Y,Y,Y,Y,Y,Y,Y,U,U,U,U,U,U,U,U,U,U,U] rfl rfl (Zn HT_.out (by kernel_rfl)) (fun _ _ _ h => h) (Or.inl ⟨by rfl,?_⟩) ?_ ?_;rotate_left
                          · intro w'
                            go_simp;with_reducible rfl
                          rotate_left
                          · simp only [Act.put,YV,YW,YX,i64_w,i32_w]
                            rfl
                          refine pure_ (i := 20) (N := some 53) (v := ?_) (a' := ?_) #[Y,Y,Y,Y,Y,Y,Y,Y,Y,Y,Y,Y,Y,Y,Y,Y,Y,Y,Y,Y,Y,U,U,U,U,U,U,U,U,U,U] rfl rfl (Zn HT_.out (by kernel_rfl)) (fun _ _ _ h => h) (Or.inl ⟨by rfl,?_⟩) ?_ ?_;rotate_left
                          · intro w'
                            go_simp;with_reducible rfl
                          rotate_left
                          · simp only [Act.put,YV,YW,YX,i64_w,i32_w]
                            rfl
                          refine pure_ (i := 21) (N := some 54) (v := ?_) (a' := ?_) #[Y,Y,Y,Y,Y,Y,Y,Y,Y,Y,Y,Y,Y,Y,Y,Y,Y,Y,Y,Y,Y,Y,U,U,U,U,U,U,U,U,U] rfl rfl (Zn HT_.out (by kernel_rfl)) (fun _ _ _ h => h) (Or.inl ⟨by rfl,?_⟩) ?_ ?_;rotate_left
                          · intro w'
                            go_simp;with_reducible rfl
                          rotate_left
                          · simp only [Act.put,YV,YW,YX,i64_w,i32_w]
                            rfl
                          refine pure_ (i := 22) (N := some 55) (v := ?_) (a' := ?_) #[Y,Y,Y,Y,Y,Y,Y,Y,Y,Y,Y,Y,Y,Y,Y,Y,Y,Y,Y,Y,Y,Y,Y,U,U,U,U,U,U,U,U] rfl rfl (Zn HT_.out (by kernel_rfl)) (fun _ _ _ h => h) (Or.inl ⟨by rfl,?_⟩) ?_ ?_;rotate_left
                          · intro w'
                            go_simp;with_reducible rfl
                          rotate_left
                          · simp only [Act.put,YV,YW,YX,i64_w,i32_w]
                            rfl
                          refine pure_ (i := 23) (N := some 56) (v := ?_) (a' := ?_) #[Y,Y,Y,Y,Y,Y,Y,Y,Y,Y,Y,Y,Y,Y,Y,Y,Y,Y,Y,Y,Y,Y,Y,Y,U,U,U,U,U,U,U] rfl rfl (Zn HT_.out (by kernel_rfl)) (fun _ _ _ h => h) (Or.inl ⟨by rfl,?_⟩) ?_ ?_;rotate_left
                          · intro w'
                            go_simp;with_reducible rfl
                          rotate_left
                          · simp only [Act.put,YV,YW,YX,i64_w,i32_w]
                            rfl
                          refine pure_ (i := 24) (N := some 57) (v := ?_) (a' := ?_) #[Y,Y,Y,Y,Y,Y,Y,Y,Y,Y,Y,Y,Y,Y,Y,Y,Y,Y,Y,Y,Y,Y,Y,Y,Y,U,U,U,U,U,U] rfl rfl (Zn HT_.out (by kernel_rfl)) (fun _ _ _ h => h) (Or.inl ⟨by rfl,?_⟩) ?_ ?_;rotate_left
                          · intro w'
                            go_simp;with_reducible rfl
                          rotate_left
                          · simp only [Act.put,YV,YW,YX,i64_w,i32_w]
                            rfl
                          refine pure_ (i := 26) (N := some 59) (v := ?_) (a' := ?_) #[Y,Y,Y,Y,Y,Y,Y,Y,Y,Y,Y,Y,Y,Y,Y,Y,Y,Y,Y,Y,Y,Y,Y,Y,Y,U,Y,U,U,U,U] rfl rfl (Zn HT_.out (by kernel_rfl)) (fun _ _ _ h => h) (Or.inl ⟨by rfl,?_⟩) ?_ ?_;rotate_left
                          · intro w'
                            go_simp;with_reducible rfl
                          rotate_left
                          · simp only [Act.put,YV,YW,YX,i64_w,i32_w]
                            rfl
                          refine take_ (i := 25) (N := some 58) (v := ?_) (a' := ?_) #[Y,Y,Y,Y,Y,Y,Y,Y,Y,Y,Y,Y,Y,Y,Y,Y,Y,Y,Y,Y,Y,Y,Y,Y,Y,Y,Y,U,U,U,U] rfl rfl (Xh HT_.out HW_.out (by kernel_rfl)) (fun _ _ _ h => h) (Or.inl ⟨by rfl,?_⟩) hHeld ?_ ?_;rotate_left
                          · rintro w' ⟨s0,s1,s2,s3,s4,s5⟩
                            go_simp;with_reducible rfl
                          rotate_left
                          · simp only [Act.put,YV,YW,YX,i64_w,i32_w]
                            rfl
                          refine take_ (i := 27) (N := some 60) (v := ?_) (a' := ?_) #[Y,Y,Y,Y,Y,Y,Y,Y,Y,Y,Y,Y,Y,Y,Y,Y,Y,Y,Y,Y,Y,Y,Y,Y,Y,Y,Y,Y,U,U,U] rfl rfl (Xh HT_.out HW_.out (by kernel_rfl)) (fun _ _ _ h => h) (Or.inl ⟨by rfl,?_⟩) hHeld ?_ ?_;rotate_left
                          · rintro w' ⟨s0,s1,s2,s3,s4,s5⟩
                            go_simp;with_reducible rfl
                          rotate_left
                          · simp only [Act.put,YV,YW,YX,i64_w,i32_w]
                            rfl
                          refine pure_ (i := 28) (N := some 61) (v := ?_) (a' := ?_) #[Y,Y,Y,Y,Y,Y,Y,Y,Y,Y,Y,Y,Y,Y,Y,Y,Y,Y,Y,Y,Y,Y,Y,Y,Y,Y,Y,Y,Y,U,U] rfl rfl (Zn HT_.out (by kernel_rfl)) (fun _ _ _ h => h) (Or.inl ⟨by rfl,?_⟩) ?_ ?_;rotate_left
                          · intro w'
                            go_simp;with_reducible rfl
                          rotate_left
                          · simp only [Act.put,YV,YW,YX,i64_w,i32_w]
                            rfl
                          refine pure_ (i := 29) (N := some 62) (v := ?_) (a' := ?_) #[Y,Y,Y,Y,Y,Y,Y,Y,Y,Y,Y,Y,Y,Y,Y,Y,Y,Y,Y,Y,Y,Y,Y,Y,Y,Y,Y,Y,Y,Y,U] rfl rfl (Zn HT_.out (by kernel_rfl)) (fun _ _ _ h => h) (Or.inl ⟨by rfl,?_⟩) ?_ ?_;rotate_left
                          · intro w'
                            go_simp;with_reducible rfl
                          rotate_left
                          · simp only [Act.put,YV,YW,YX,i64_w,i32_w]
                            rfl
                          refine pure_ (i := 30) (N := some 63) (v := ?_) (a' := ?_) #[Y,Y,Y,Y,Y,Y,Y,Y,Y,Y,Y,Y,Y,Y,Y,Y,Y,Y,Y,Y,Y,Y,Y,Y,Y,Y,Y,Y,Y,Y,Y] rfl rfl (Zn HT_.out (by kernel_rfl)) (fun _ _ _ h => h) (Or.inl ⟨by rfl,?_⟩) ?_ ?_;rotate_left
                          · intro w'
                            go_simp;with_reducible rfl
                          rotate_left
                          · simp only [Act.put,YV,YW,YX,i64_w,i32_w]
                            rfl
                          refine done_ (XA HT_.out (by kernel_rfl)) ?_
                          try go_wp2
                          go_meet
                          case rel => exact ⟨_,(decide (((Zf l0 (ji24)).f0) ≥ ((Zf l0 x28_2).f0))),(by first | rfl | (simp;done) | (simp only [← hji24] <;> (first | rfl | simp)) | (simp [*];done)),H',⟨by have := HJ1.out;have := HK2.out;first | omega | exact Nat.le_refl _⟩,⟨by (with_reducible repeat (first | refine Zu ?_ _ | refine Zw ?_ | refine Zs ?_ _));exact BK112.out⟩,⟨by repeat (first | (with_reducible first | exact HB.out | apply Zc | apply Za | apply Zb | refine Z9 ?_ GE112.out) | exact HB.out)⟩⟩
                        · rw [if_neg c26] at H
                          exact absurd H (by simp)
                      · rw [if_neg c25] at H
                        exact absurd H (by simp)
                    · rw [if_neg c23] at H
                      have c23b0 : decide (0 < x28_2) = false := decide_eq_false c23;clear c23
                      (first | rw [c23b0] | (simp only [i64_w,i32_w];rw [c23b0]) | skip)
                      have H' := Zd.mk H;clear H
                      try go_wp2
                      have n0_ : Zd ((((w15.setCell ⟨gb112,0,none⟩ (.int .i64 ((Zf l0 x28_2).f0))).setCell ⟨gb112,1,none⟩ (.int .i64 ((Zf l0 x28_2).f1))).setCell ⟨gb112,2,none⟩ (.int .i64 ((Zf l0 x28_2).f2))).heap[gb112]? = some (.cells #[.int .i64 ((Zf l0 x28_2).f0),.int .i64 ((Zf l0 x28_2).f1),.int .i64 ((Zf l0 x28_2).f2)] 27 (0,0))) := ⟨by (with_reducible repeat (first | refine Zu ?_ _ | refine Zw ?_ | refine Zs ?_ _));refine ZE (cs := #[.int .i64 ((Zf l0 x28_2).f0),.int .i64 ((Zf l0 x28_2).f1),.int .i64 0]) ?_ 2 _ rfl;(with_reducible repeat (first | refine Zu ?_ _ | refine Zw ?_ | refine Zs ?_ _));refine ZE (cs := #[.int .i64 ((Zf l0 x28_2).f0),.int .i64 0,.int .i64 0]) ?_ 1 _ rfl;(with_reducible repeat (first | refine Zu ?_ _ | refine Zw ?_ | refine Zs ?_ _));refine ZE (cs := #[.int .i64 0,.int .i64 0,.int .i64 0]) ?_ 0 _ rfl;(with_reducible repeat (first | refine Zu ?_ _ | refine Zw ?_ | refine Zs ?_ _));exact BK112.out⟩
                      have n1_ : Zd (Below w.heap.size w (((w15.setCell ⟨gb112,0,none⟩ (.int .i64 ((Zf l0 x28_2).f0))).setCell ⟨gb112,1,none⟩ (.int .i64 ((Zf l0 x28_2).f1))).setCell ⟨gb112,2,none⟩ (.int .i64 ((Zf l0 x28_2).f2)))) := ⟨by repeat (first | (with_reducible first | exact HB.out | apply Zc | apply Za | apply Zb | refine Z9 ?_ GE112.out) | exact HB.out)⟩
                      (try clear BK112)
                      (try clear HB)
                      generalize (((w15.setCell ⟨gb112,0,none⟩ (.int .i64 ((Zf l0 x28_2).f0))).setCell ⟨gb112,1,none⟩ (.int .i64 ((Zf l0 x28_2).f1))).setCell ⟨gb112,2,none⟩ (.int .i64 ((Zf l0 x28_2).f2))) = w29 at n0_ n1_ ⊢;have BK112 := n0_;have HB := n1_;clear n0_ n1_;have n0_ := Zd.mk (Zw BK112.out);have n1_ := Zd.mk (Zb HB.out);clear BK112;clear HB;have BK112 := n0_;have HB := n1_;clear n0_ n1_;refine XE (n := 31) (S := fun w' => w'.cell? ⟨gb112,0,none⟩ = some (.int .i64 ((Zf l0 x28_2).f0)) ∧ w'.cell? ⟨gb112,1,none⟩ = some (.int .i64 ((Zf l0 x28_2).f1)) ∧ w'.cell? ⟨gb112,2,none⟩ = some (.int .i64 ((Zf l0 x28_2).f2))) (ds := []) #[U,U,U,U,U,U,U,U,U,U,U,U,U,U,U,U,U,U,U,U,U,U,U,U,U,U,U,U,U,U,U] (by kernel_rfl) rfl rfl ⟨(Zm BK112.out 0).trans rfl,(Zm BK112.out 1).trans rfl,(Zm BK112.out 2).trans rfl⟩ (fun hHeld => ?_);refine X2 Zy.tab6 Zy.bits6 (fun HT_ HW_ => ?_);generalize w29.drew = w30 at BK112 HB hHeld ⊢;refine pure_ (i := 0) (N := some 33) (v := ?_) (a' := ?_) #[Y,U,U,U,U,U,U,U,U,U,U,U,U,U,U,U,U,U,U,U,U,U,U,U,U,U,U,U,U,U,U] rfl rfl (Zn HT_.out (by kernel_rfl)) (fun _ _ _ h => h) (Or.inl ⟨by rfl,?_⟩) ?_ ?_;rotate_left
                      · intro w'
                        go_simp;with_reducible rfl
                      rotate_left
                      · simp only [Act.put,YV,YW,YX,i64_w,i32_w]
                        rfl
                      refine take_ (i := 1) (N := some 34) (v := ?_) (a' := ?_) #[Y,Y,U,U,U,U,U,U,U,U,U,U,U,U,U,U,U,U,U,U,U,U,U,U,U,U,U,U,U,U,U] rfl rfl (Xh HT_.out HW_.out (by kernel_rfl)) (fun _ _ _ h => h) (Or.inl ⟨by rfl,?_⟩) hHeld ?_ ?_;rotate_left
                      · rintro w' ⟨s0,s1,s2⟩
                        go_simp;with_reducible rfl
                      rotate_left
                      · simp only [Act.put,YV,YW,YX,i64_w,i32_w]
                        rfl
                      refine one_ (i := 2) (N := some 35) #[Y,Y,Y,U,U,U,U,U,U,U,U,U,U,U,U,U,U,U,U,U,U,U,U,U,U,U,U,U,U,U,U] rfl rfl (X7 HT_.out (by kernel_rfl)) (by decide) (fun K hK => ?_);refine goes_ Try.func43 (by kernel_rfl) rfl #[.int .i64 ((Zf l0 x28_2).f1),.int .i64 1,.int .i64 67108864] (by rfl) rfl rfl (by (try simp only [List.map_toArray,List.map_cons,List.map_nil]);first | done | rfl | (simp only [List.length_drop,List.length_take];rfl)) ?_
                      with_reducible refine (Z1.calls ((Zf l0 x28_2).f1) 1 67108864 true _ A17.out).mono ?_
                      rintro e w' ⟨rfl,⟨nd,rfl⟩⟩;refine ⟨_,rfl,?_⟩;refine hK.out _ _ ⟨(Zm BK112.out 0).trans rfl,(Zm BK112.out 1).trans rfl,(Zm BK112.out 2).trans rfl⟩ (fun hHeld => ?_);clear hK K;refine norm_ (a' := ?_) ?_ ?_;rotate_left
                      · show Act.put _ (some 35) _ = _
                        simp only [Act.put,YV,YW,YX,i64_w,i32_w];rfl
                      refine pure_ (i := 3) (N := some 36) (v := ?_) (a' := ?_) #[Y,Y,Y,Y,U,U,U,U,U,U,U,U,U,U,U,U,U,U,U,U,U,U,U,U,U,U,U,U,U,U,U] rfl rfl (Zn HT_.out (by kernel_rfl)) (fun _ _ _ h => h) (Or.inl ⟨by rfl,?_⟩) ?_ ?_;rotate_left
                      · intro w'
                        go_simp;with_reducible rfl
                      rotate_left
                      · simp only [Act.put,YV,YW,YX,i64_w,i32_w]
                        rfl
                      refine pure_ (i := 4) (N := some 37) (v := ?_) (a' := ?_) #[Y,Y,Y,Y,Y,U,U,U,U,U,U,U,U,U,U,U,U,U,U,U,U,U,U,U,U,U,U,U,U,U,U] rfl rfl (Zn HT_.out (by kernel_rfl)) (fun _ _ _ h => h) (Or.inl ⟨by rfl,?_⟩) ?_ ?_;rotate_left
                      · intro w'
                        go_simp;with_reducible rfl
                      rotate_left
                      · simp only [Act.put,YV,YW,YX,i64_w,i32_w]
                        rfl
                      refine pure_ (i := 5) (N := some 38) (v := ?_) (a' := ?_) #[Y,Y,Y,Y,Y,Y,U,U,U,U,U,U,U,U,U,U,U,U,U,U,U,U,U,U,U,U,U,U,U,U,U] rfl rfl (Zn HT_.out (by kernel_rfl)) (fun _ _ _ h => h) (Or.inl ⟨by rfl,?_⟩) ?_ ?_;rotate_left
                      · intro w'
                        go_simp;with_reducible rfl
                      rotate_left
                      · simp only [Act.put,YV,YW,YX,i64_w,i32_w]
                        rfl
                      refine take_ (i := 6) (N := some 39) (v := ?_) (a' := ?_) #[Y,Y,Y,Y,Y,Y,Y,U,U,U,U,U,U,U,U,U,U,U,U,U,U,U,U,U,U,U,U,U,U,U,U] rfl rfl (Xh HT_.out HW_.out (by kernel_rfl)) (fun _ _ _ h => h) (Or.inl ⟨by rfl,?_⟩) hHeld ?_ ?_;rotate_left
                      · rintro w' ⟨s0,s1,s2⟩
                        go_simp;with_reducible rfl
                      rotate_left
                      · simp only [Act.put,YV,YW,YX,i64_w,i32_w]
                        rfl
                      refine one_ (i := 7) (N := some 40) #[Y,Y,Y,Y,Y,Y,Y,Y,U,U,U,U,U,U,U,U,U,U,U,U,U,U,U,U,U,U,U,U,U,U,U] rfl rfl (X7 HT_.out (by kernel_rfl)) (by decide) (fun K hK => ?_);refine goes_ Try.func43 (by kernel_rfl) rfl #[.int .i64 ((Zf l0 x28_2).f2),.int .i64 0,.int .i64 1] (by rfl) rfl rfl (by (try simp only [List.map_toArray,List.map_cons,List.map_nil]);first | done | rfl | (simp only [List.length_drop,List.length_take];rfl)) ?_
                      with_reducible refine (Z1.calls ((Zf l0 x28_2).f2) 0 1 true _ A19.out).mono ?_
                      rintro e w' ⟨rfl,⟨nd,rfl⟩⟩;refine ⟨_,rfl,?_⟩;refine hK.out _ _ ⟨(Zm BK112.out 0).trans rfl,(Zm BK112.out 1).trans rfl,(Zm BK112.out 2).trans rfl⟩ (fun hHeld => ?_);clear hK K;refine norm_ (a' := ?_) ?_ ?_;rotate_left
                      · show Act.put _ (some 40) _ = _
                        simp only [Act.put,YV,YW,YX,i64_w,i32_w];rfl
                      refine pure_ (i := 8) (N := some 41) (v := ?_) (a' := ?_) #[Y,Y,Y,Y,Y,Y,Y,Y,Y,U,U,U,U,U,U,U,U,U,U,U,U,U,U,U,U,U,U,U,U,U,U] rfl rfl (Zn HT_.out (by kernel_rfl)) (fun _ _ _ h => h) (Or.inl ⟨by rfl,?_⟩) ?_ ?_;rotate_left
                      · intro w'
                        go_simp;with_reducible rfl
                      rotate_left
                      · simp only [Act.put,YV,YW,YX,i64_w,i32_w]
                        rfl
                      refine pure_ (i := 9) (N := some 42) (v := ?_) (a' := ?_) #[Y,Y,Y,Y,Y,Y,Y,Y,Y,Y,U,U,U,U,U,U,U,U,U,U,U,U,U,U,U,U,U,U,U,U,U] rfl rfl (Zn HT_.out (by kernel_rfl)) (fun _ _ _ h => h) (Or.inl ⟨by rfl,?_⟩) ?_ ?_;rotate_left
                      · intro w'
                        go_simp;with_reducible rfl
                      rotate_left
                      · simp only [Act.put,YV,YW,YX,i64_w,i32_w]
                        rfl
                      refine pure_ (i := 10) (N := some 43) (v := ?_) (a' := ?_) #[Y,Y,Y,Y,Y,Y,Y,Y,Y,Y,Y,U,U,U,U,U,U,U,U,U,U,U,U,U,U,U,U,U,U,U,U] rfl rfl (Zn HT_.out (by kernel_rfl)) (fun _ _ _ h => h) (Or.inl ⟨by rfl,?_⟩) ?_ ?_;rotate_left
                      · intro w'
                        go_simp;with_reducible rfl
                      rotate_left
                      · simp only [Act.put,YV,YW,YX,i64_w,i32_w]
                        rfl
                      refine pure_ (i := 11) (N := some 44) (v := ?_) (a' := ?_) #[Y,Y,Y,Y,Y,Y,Y,Y,Y,Y,Y,Y,U,U,U,U,U,U,U,U,U,U,U,U,U,U,U,U,U,U,U] rfl rfl (Zn HT_.out (by kernel_rfl)) (fun _ _ _ h => h) (Or.inl ⟨by rfl,?_⟩) ?_ ?_;rotate_left
                      · intro w'
                        go_simp;with_reducible rfl
                      rotate_left
                      · simp only [Act.put,YV,YW,YX,i64_w,i32_w]
                        rfl
                      refine take_ (i := 12) (N := some 45) (v := ?_) (a' := ?_) #[Y,Y,Y,Y,Y,Y,Y,Y,Y,Y,Y,Y,Y,U,U,U,U,U,U,U,U,U,U,U,U,U,U,U,U,U,U] rfl rfl (Xh HT_.out HW_.out (by kernel_rfl)) (fun _ _ _ h => h) (Or.inl ⟨by rfl,?_⟩) hHeld ?_ ?_;rotate_left
                      · rintro w' ⟨s0,s1,s2⟩
                        go_simp;with_reducible rfl
                      rotate_left
                      · simp only [Act.put,YV,YW,YX,i64_w,i32_w]
                        rfl
                      refine one_ (i := 13) (N := some 46) #[Y,Y,Y,Y,Y,Y,Y,Y,Y,Y,Y,Y,Y,Y,U,U,U,U,U,U,U,U,U,U,U,U,U,U,U,U,U] rfl rfl (X7 HT_.out (by kernel_rfl)) (by decide) (fun K hK => ?_);refine goes_ Try.func43 (by kernel_rfl) rfl #[.int .i64 ((Zf l0 x28_2).f0),.int .i64 0,.int .i64 1000000000] (by rfl) rfl rfl (by (try simp only [List.map_toArray,List.map_cons,List.map_nil]);first | done | rfl | (simp only [List.length_drop,List.length_take];rfl)) ?_
                      with_reducible refine (Z1.calls ((Zf l0 x28_2).f0) 0 1000000000 true _ A21.out).mono ?_
                      rintro e w' ⟨rfl,⟨nd,rfl⟩⟩;refine ⟨_,rfl,?_⟩;refine hK.out _ _ ⟨(Zm BK112.out 0).trans rfl,(Zm BK112.out 1).trans rfl,(Zm BK112.out 2).trans rfl⟩ (fun hHeld => ?_);clear hK K;refine norm_ (a' := ?_) ?_ ?_;rotate_left
                      · show Act.put _ (some 46) _ = _
                        simp only [Act.put,YV,YW,YX,i64_w,i32_w];rfl
                      refine pure_ (i := 14) (N := some 47) (v := ?_) (a' := ?_) #[Y,Y,Y,Y,Y,Y,Y,Y,Y,Y,Y,Y,Y,Y,Y,U,U,U,U,U,U,U,U,U,U,U,U,U,U,U,U] rfl rfl (Zn HT_.out (by kernel_rfl)) (fun _ _ _ h => h) (Or.inl ⟨by rfl,?_⟩) ?_ ?_;rotate_left
                      · intro w'
                        go_simp;with_reducible rfl
                      rotate_left
                      · simp only [Act.put,YV,YW,YX,i64_w,i32_w]
                        rfl
                      refine pure_ (i := 15) (N := some 48) (v := ?_) (a' := ?_) #[Y,Y,Y,Y,Y,Y,Y,Y,Y,Y,Y,Y,Y,Y,Y,Y,U,U,U,U,U,U,U,U,U,U,U,U,U,U,U] rfl rfl (Zn HT_.out (by kernel_rfl)) (fun _ _ _ h => h) (Or.inl ⟨by rfl,?_⟩) ?_ ?_;rotate_left
                      · intro w'
                        go_simp;with_reducible rfl
                      rotate_left
                      · simp only [Act.put,YV,YW,YX,i64_w,i32_w]
                        rfl
                      refine pure_ (i := 16) (N := some 49) (v := ?_) (a' := ?_) #[Y,Y,Y,Y,Y,Y,Y,Y,Y,Y,Y,Y,Y,Y,Y,Y,Y,U,U,U,U,U,U,U,U,U,U,U,U,U,U] rfl rfl (Zn HT_.out (by kernel_rfl)) (fun _ _ _ h => h) (Or.inl ⟨by rfl,?_⟩) ?_ ?_;rotate_left
                      · intro w'
                        go_simp;with_reducible rfl
                      rotate_left
                      · simp only [Act.put,YV,YW,YX,i64_w,i32_w]
                        rfl
                      refine pure_ (i := 17) (N := some 50) (v := ?_) (a' := ?_) #[Y,Y,Y,Y,Y,Y,Y,Y,Y,Y,Y,Y,Y,Y,Y,Y,Y,Y,U,U,U,U,U,U,U,U,U,U,U,U,U] rfl rfl (Zn HT_.out (by kernel_rfl)) (fun _ _ _ h => h) (Or.inl ⟨by rfl,?_⟩) ?_ ?_;rotate_left
                      · intro w'
                        go_simp;with_reducible rfl
                      rotate_left
                      · simp only [Act.put,YV,YW,YX,i64_w,i32_w]
                        rfl
                      refine pure_ (i := 18) (N := some 51) (v := ?_) (a' := ?_) #[Y,Y,Y,Y,Y,Y,Y,Y,Y,Y,Y,Y,Y,Y,Y,Y,Y,Y,Y,U,U,U,U,U,U,U,U,U,U,U,U] rfl rfl (Zn HT_.out (by kernel_rfl)) (fun _ _ _ h => h) (Or.inl ⟨by rfl,?_⟩) ?_ ?_;rotate_left
                      · intro w'
                        go_simp;with_reducible rfl
                      rotate_left
                      · simp only [Act.put,YV,YW,YX,i64_w,i32_w]
                        rfl
                      refine pure_ (i := 19) (N := some 52) (v := ?_) (a' := ?_) #[Y,Y,Y,Y,Y,Y,Y,Y,Y,Y,Y,Y,Y,Y,Y,Y,Y,Y,Y,Y,U,U,U,U,U,U,U,U,U,U,U] rfl rfl (Zn HT_.out (by kernel_rfl)) (fun _ _ _ h => h) (Or.inl ⟨by rfl,?_⟩) ?_ ?_;rotate_left
                      · intro w'
                        go_simp;with_reducible rfl
                      rotate_left
                      · simp only [Act.put,YV,YW,YX,i64_w,i32_w]
                        rfl
                      refine pure_ (i := 20) (N := some 53) (v := undef) (a' := ?_) #[Y,Y,Y,Y,Y,Y,Y,Y,Y,Y,Y,Y,Y,Y,Y,Y,Y,Y,Y,Y,Y,U,U,U,U,U,U,U,U,U,U] rfl rfl (Zn HT_.out (by kernel_rfl)) (fun _ _ _ h => h) (Or.inr ⟨by rfl,rfl⟩) ?_ ?_;rotate_left
                      · simp only [Act.put,YV,YW,YX,i64_w,i32_w]
                        rfl
                      refine pure_ (i := 21) (N := some 54) (v := undef) (a' := ?_) #[Y,Y,Y,Y,Y,Y,Y,Y,Y,Y,Y,Y,Y,Y,Y,Y,Y,Y,Y,Y,Y,Y,U,U,U,U,U,U,U,U,U] rfl rfl (Zn HT_.out (by kernel_rfl)) (fun _ _ _ h => h) (Or.inr ⟨by rfl,rfl⟩) ?_ ?_;rotate_left
                      · simp only [Act.put,YV,YW,YX,i64_w,i32_w]
                        rfl
                      refine pure_ (i := 22) (N := some 55) (v := undef) (a' := ?_) #[Y,Y,Y,Y,Y,Y,Y,Y,Y,Y,Y,Y,Y,Y,Y,Y,Y,Y,Y,Y,Y,Y,Y,U,U,U,U,U,U,U,U] rfl rfl (Zn HT_.out (by kernel_rfl)) (fun _ _ _ h => h) (Or.inr ⟨by rfl,rfl⟩) ?_ ?_;rotate_left
                      · simp only [Act.put,YV,YW,YX,i64_w,i32_w]
                        rfl
                      refine pure_ (i := 23) (N := some 56) (v := undef) (a' := ?_) #[Y,Y,Y,Y,Y,Y,Y,Y,Y,Y,Y,Y,Y,Y,Y,Y,Y,Y,Y,Y,Y,Y,Y,Y,U,U,U,U,U,U,U] rfl rfl (Zn HT_.out (by kernel_rfl)) (fun _ _ _ h => h) (Or.inr ⟨by rfl,rfl⟩) ?_ ?_;rotate_left
                      · simp only [Act.put,YV,YW,YX,i64_w,i32_w]
                        rfl
                      refine pure_ (i := 24) (N := some 57) (v := undef) (a' := ?_) #[Y,Y,Y,Y,Y,Y,Y,Y,Y,Y,Y,Y,Y,Y,Y,Y,Y,Y,Y,Y,Y,Y,Y,Y,Y,U,U,U,U,U,U] rfl rfl (Zn HT_.out (by kernel_rfl)) (fun _ _ _ h => h) (Or.inr ⟨by rfl,rfl⟩) ?_ ?_;rotate_left
                      · simp only [Act.put,YV,YW,YX,i64_w,i32_w]
                        rfl
                      refine pure_ (i := 25) (N := some 58) (v := undef) (a' := ?_) #[Y,Y,Y,Y,Y,Y,Y,Y,Y,Y,Y,Y,Y,Y,Y,Y,Y,Y,Y,Y,Y,Y,Y,Y,Y,Y,U,U,U,U,U] rfl rfl (Zn HT_.out (by kernel_rfl)) (fun _ _ _ h => h) (Or.inr ⟨by rfl,rfl⟩) ?_ ?_;rotate_left
                      · simp only [Act.put,YV,YW,YX,i64_w,i32_w]
                        rfl
                      refine pure_ (i := 26) (N := some 59) (v := undef) (a' := ?_) #[Y,Y,Y,Y,Y,Y,Y,Y,Y,Y,Y,Y,Y,Y,Y,Y,Y,Y,Y,Y,Y,Y,Y,Y,Y,Y,Y,U,U,U,U] rfl rfl (Zn HT_.out (by kernel_rfl)) (fun _ _ _ h => h) (Or.inr ⟨by rfl,rfl⟩) ?_ ?_;rotate_left
                      · simp only [Act.put,YV,YW,YX,i64_w,i32_w]
                        rfl
                      refine pure_ (i := 27) (N := some 60) (v := undef) (a' := ?_) #[Y,Y,Y,Y,Y,Y,Y,Y,Y,Y,Y,Y,Y,Y,Y,Y,Y,Y,Y,Y,Y,Y,Y,Y,Y,Y,Y,Y,U,U,U] rfl rfl (Zn HT_.out (by kernel_rfl)) (fun _ _ _ h => h) (Or.inr ⟨by rfl,rfl⟩) ?_ ?_;rotate_left
                      · simp only [Act.put,YV,YW,YX,i64_w,i32_w]
                        rfl
                      refine pure_ (i := 28) (N := some 61) (v := undef) (a' := ?_) #[Y,Y,Y,Y,Y,Y,Y,Y,Y,Y,Y,Y,Y,Y,Y,Y,Y,Y,Y,Y,Y,Y,Y,Y,Y,Y,Y,Y,Y,U,U] rfl rfl (Zn HT_.out (by kernel_rfl)) (fun _ _ _ h => h) (Or.inr ⟨by rfl,rfl⟩) ?_ ?_;rotate_left
                      · simp only [Act.put,YV,YW,YX,i64_w,i32_w]
                        rfl
                      refine pure_ (i := 29) (N := some 62) (v := ?_) (a' := ?_) #[Y,Y,Y,Y,Y,Y,Y,Y,Y,Y,Y,Y,Y,Y,Y,Y,Y,Y,Y,Y,Y,Y,Y,Y,Y,Y,Y,Y,Y,Y,U] rfl rfl (Zn HT_.out (by kernel_rfl)) (fun _ _ _ h => h) (Or.inl ⟨by rfl,?_⟩) ?_ ?_;rotate_left
                      · intro w'
                        go_simp;with_reducible rfl
                      rotate_left
                      · simp only [Act.put,YV,YW,YX,i64_w,i32_w]
                        rfl
                      refine pure_ (i := 30) (N := some 63) (v := ?_) (a' := ?_) #[Y,Y,Y,Y,Y,Y,Y,Y,Y,Y,Y,Y,Y,Y,Y,Y,Y,Y,Y,Y,Y,Y,Y,Y,Y,Y,Y,Y,Y,Y,Y] rfl rfl (Zn HT_.out (by kernel_rfl)) (fun _ _ _ h => h) (Or.inl ⟨by rfl,?_⟩) ?_ ?_;rotate_left
                      · intro w'
                        go_simp;with_reducible rfl
                      rotate_left
                      · simp only [Act.put,YV,YW,YX,i64_w,i32_w]
                        rfl
                      refine done_ (XA HT_.out (by kernel_rfl)) ?_
                      try go_wp2
                      go_meet
                      case rel => exact ⟨_,(false),(by first | rfl | (simp;done) | (simp [*];done)),H',⟨by have := HJ1.out;have := HK2.out;first | omega | exact Nat.le_refl _⟩,⟨by (with_reducible repeat (first | refine Zu ?_ _ | refine Zw ?_ | refine Zs ?_ _));exact BK112.out⟩,⟨by repeat (first | (with_reducible first | exact HB.out | apply Zc | apply Za | apply Zb | refine Z9 ?_ GE112.out) | exact HB.out)⟩⟩
                  · replace c22 := Bool.eq_false_iff.mpr c22
                    subst c22
                    have H1 : (Zy.j2 k2 l0 x28_2 l0 (l0.length : Int) x28_2 true ((Zf l0 x28_2).f0) ((Zf l0 x28_2).f1) ((Zf l0 x28_2).f2)) = some r := by rw [if_neg (show ¬ (false = true) by decide)] at H;exact H
                    clear H;have H := H1;clear H1;have H' := Zd.mk H;clear H
                    try go_wp2
                    have n0_ : Zd ((((w15.setCell ⟨gb112,0,none⟩ (.int .i64 ((Zf l0 x28_2).f0))).setCell ⟨gb112,1,none⟩ (.int .i64 ((Zf l0 x28_2).f1))).setCell ⟨gb112,2,none⟩ (.int .i64 ((Zf l0 x28_2).f2))).heap[gb112]? = some (.cells #[.int .i64 ((Zf l0 x28_2).f0),.int .i64 ((Zf l0 x28_2).f1),.int .i64 ((Zf l0 x28_2).f2)] 27 (0,0))) := ⟨by (with_reducible repeat (first | refine Zu ?_ _ | refine Zw ?_ | refine Zs ?_ _));refine ZE (cs := #[.int .i64 ((Zf l0 x28_2).f0),.int .i64 ((Zf l0 x28_2).f1),.int .i64 0]) ?_ 2 _ rfl;(with_reducible repeat (first | refine Zu ?_ _ | refine Zw ?_ | refine Zs ?_ _));refine ZE (cs := #[.int .i64 ((Zf l0 x28_2).f0),.int .i64 0,.int .i64 0]) ?_ 1 _ rfl;(with_reducible repeat (first | refine Zu ?_ _ | refine Zw ?_ | refine Zs ?_ _));refine ZE (cs := #[.int .i64 0,.int .i64 0,.int .i64 0]) ?_ 0 _ rfl;(with_reducible repeat (first | refine Zu ?_ _ | refine Zw ?_ | refine Zs ?_ _));exact BK112.out⟩
                    have n1_ : Zd (Below w.heap.size w (((w15.setCell ⟨gb112,0,none⟩ (.int .i64 ((Zf l0 x28_2).f0))).setCell ⟨gb112,1,none⟩ (.int .i64 ((Zf l0 x28_2).f1))).setCell ⟨gb112,2,none⟩ (.int .i64 ((Zf l0 x28_2).f2)))) := ⟨by repeat (first | (with_reducible first | exact HB.out | apply Zc | apply Za | apply Zb | refine Z9 ?_ GE112.out) | exact HB.out)⟩
                    (try clear BK112)
                    (try clear HB)
                    generalize (((w15.setCell ⟨gb112,0,none⟩ (.int .i64 ((Zf l0 x28_2).f0))).setCell ⟨gb112,1,none⟩ (.int .i64 ((Zf l0 x28_2).f1))).setCell ⟨gb112,2,none⟩ (.int .i64 ((Zf l0 x28_2).f2))) = w31 at n0_ n1_ ⊢;have BK112 := n0_;have HB := n1_;clear n0_ n1_;have n0_ := Zd.mk (Zw BK112.out);have n1_ := Zd.mk (Zb HB.out);clear BK112;clear HB;have BK112 := n0_;have HB := n1_;clear n0_ n1_;refine XE (n := 31) (S := fun w' => w'.cell? ⟨gb112,0,none⟩ = some (.int .i64 ((Zf l0 x28_2).f0)) ∧ w'.cell? ⟨gb112,1,none⟩ = some (.int .i64 ((Zf l0 x28_2).f1)) ∧ w'.cell? ⟨gb112,2,none⟩ = some (.int .i64 ((Zf l0 x28_2).f2))) (ds := []) #[U,U,U,U,U,U,U,U,U,U,U,U,U,U,U,U,U,U,U,U,U,U,U,U,U,U,U,U,U,U,U] (by kernel_rfl) rfl rfl ⟨(Zm BK112.out 0).trans rfl,(Zm BK112.out 1).trans rfl,(Zm BK112.out 2).trans rfl⟩ (fun hHeld => ?_);refine X2 Zy.tab6 Zy.bits6 (fun HT_ HW_ => ?_);generalize w31.drew = w32 at BK112 HB hHeld ⊢;refine pure_ (i := 0) (N := some 33) (v := ?_) (a' := ?_) #[Y,U,U,U,U,U,U,U,U,U,U,U,U,U,U,U,U,U,U,U,U,U,U,U,U,U,U,U,U,U,U] rfl rfl (Zn HT_.out (by kernel_rfl)) (fun _ _ _ h => h) (Or.inl ⟨by rfl,?_⟩) ?_ ?_;rotate_left
                    · intro w'
                      go_simp;with_reducible rfl
                    rotate_left
                    · simp only [Act.put,YV,YW,YX,i64_w,i32_w]
                      rfl
                    refine take_ (i := 1) (N := some 34) (v := ?_) (a' := ?_) #[Y,Y,U,U,U,U,U,U,U,U,U,U,U,U,U,U,U,U,U,U,U,U,U,U,U,U,U,U,U,U,U] rfl rfl (Xh HT_.out HW_.out (by kernel_rfl)) (fun _ _ _ h => h) (Or.inl ⟨by rfl,?_⟩) hHeld ?_ ?_;rotate_left
                    · rintro w' ⟨s0,s1,s2⟩
                      go_simp;with_reducible rfl
                    rotate_left
                    · simp only [Act.put,YV,YW,YX,i64_w,i32_w]
                      rfl
                    refine one_ (i := 2) (N := some 35) #[Y,Y,Y,U,U,U,U,U,U,U,U,U,U,U,U,U,U,U,U,U,U,U,U,U,U,U,U,U,U,U,U] rfl rfl (X7 HT_.out (by kernel_rfl)) (by decide) (fun K hK => ?_);refine goes_ Try.func43 (by kernel_rfl) rfl #[.int .i64 ((Zf l0 x28_2).f1),.int .i64 1,.int .i64 67108864] (by rfl) rfl rfl (by (try simp only [List.map_toArray,List.map_cons,List.map_nil]);first | done | rfl | (simp only [List.length_drop,List.length_take];rfl)) ?_
                    with_reducible refine (Z1.calls ((Zf l0 x28_2).f1) 1 67108864 true _ A17.out).mono ?_
                    rintro e w' ⟨rfl,⟨nd,rfl⟩⟩;refine ⟨_,rfl,?_⟩;refine hK.out _ _ ⟨(Zm BK112.out 0).trans rfl,(Zm BK112.out 1).trans rfl,(Zm BK112.out 2).trans rfl⟩ (fun hHeld => ?_);clear hK K;refine norm_ (a' := ?_) ?_ ?_;rotate_left
                    · show Act.put _ (some 35) _ = _
                      simp only [Act.put,YV,YW,YX,i64_w,i32_w];rfl
                    refine pure_ (i := 3) (N := some 36) (v := ?_) (a' := ?_) #[Y,Y,Y,Y,U,U,U,U,U,U,U,U,U,U,U,U,U,U,U,U,U,U,U,U,U,U,U,U,U,U,U] rfl rfl (Zn HT_.out (by kernel_rfl)) (fun _ _ _ h => h) (Or.inl ⟨by rfl,?_⟩) ?_ ?_;rotate_left
                    · intro w'
                      go_simp;with_reducible rfl
                    rotate_left
                    · simp only [Act.put,YV,YW,YX,i64_w,i32_w]
                      rfl
                    refine pure_ (i := 4) (N := some 37) (v := ?_) (a' := ?_) #[Y,Y,Y,Y,Y,U,U,U,U,U,U,U,U,U,U,U,U,U,U,U,U,U,U,U,U,U,U,U,U,U,U] rfl rfl (Zn HT_.out (by kernel_rfl)) (fun _ _ _ h => h) (Or.inl ⟨by rfl,?_⟩) ?_ ?_;rotate_left
                    · intro w'
                      go_simp;with_reducible rfl
                    rotate_left
                    · simp only [Act.put,YV,YW,YX,i64_w,i32_w]
                      rfl
                    refine pure_ (i := 5) (N := some 38) (v := ?_) (a' := ?_) #[Y,Y,Y,Y,Y,Y,U,U,U,U,U,U,U,U,U,U,U,U,U,U,U,U,U,U,U,U,U,U,U,U,U] rfl rfl (Zn HT_.out (by kernel_rfl)) (fun _ _ _ h => h) (Or.inl ⟨by rfl,?_⟩) ?_ ?_;rotate_left
                    · intro w'
                      go_simp;with_reducible rfl
                    rotate_left
                    · simp only [Act.put,YV,YW,YX,i64_w,i32_w]
                      rfl
                    refine take_ (i := 6) (N := some 39) (v := ?_) (a' := ?_) #[Y,Y,Y,Y,Y,Y,Y,U,U,U,U,U,U,U,U,U,U,U,U,U,U,U,U,U,U,U,U,U,U,U,U] rfl rfl (Xh HT_.out HW_.out (by kernel_rfl)) (fun _ _ _ h => h) (Or.inl ⟨by rfl,?_⟩) hHeld ?_ ?_;rotate_left
                    · rintro w' ⟨s0,s1,s2⟩
                      go_simp;with_reducible rfl
                    rotate_left
                    · simp only [Act.put,YV,YW,YX,i64_w,i32_w]
                      rfl
                    refine one_ (i := 7) (N := some 40) #[Y,Y,Y,Y,Y,Y,Y,Y,U,U,U,U,U,U,U,U,U,U,U,U,U,U,U,U,U,U,U,U,U,U,U] rfl rfl (X7 HT_.out (by kernel_rfl)) (by decide) (fun K hK => ?_);refine goes_ Try.func43 (by kernel_rfl) rfl #[.int .i64 ((Zf l0 x28_2).f2),.int .i64 0,.int .i64 1] (by rfl) rfl rfl (by (try simp only [List.map_toArray,List.map_cons,List.map_nil]);first | done | rfl | (simp only [List.length_drop,List.length_take];rfl)) ?_
                    with_reducible refine (Z1.calls ((Zf l0 x28_2).f2) 0 1 true _ A19.out).mono ?_
                    rintro e w' ⟨rfl,⟨nd,rfl⟩⟩;refine ⟨_,rfl,?_⟩;refine hK.out _ _ ⟨(Zm BK112.out 0).trans rfl,(Zm BK112.out 1).trans rfl,(Zm BK112.out 2).trans rfl⟩ (fun hHeld => ?_);clear hK K;refine norm_ (a' := ?_) ?_ ?_;rotate_left
                    · show Act.put _ (some 40) _ = _
                      simp only [Act.put,YV,YW,YX,i64_w,i32_w];rfl
                    refine pure_ (i := 8) (N := some 41) (v := ?_) (a' := ?_) #[Y,Y,Y,Y,Y,Y,Y,Y,Y,U,U,U,U,U,U,U,U,U,U,U,U,U,U,U,U,U,U,U,U,U,U] rfl rfl (Zn HT_.out (by kernel_rfl)) (fun _ _ _ h => h) (Or.inl ⟨by rfl,?_⟩) ?_ ?_;rotate_left
                    · intro w'
                      go_simp;with_reducible rfl
                    rotate_left
                    · simp only [Act.put,YV,YW,YX,i64_w,i32_w]
                      rfl
                    refine pure_ (i := 9) (N := some 42) (v := ?_) (a' := ?_) #[Y,Y,Y,Y,Y,Y,Y,Y,Y,Y,U,U,U,U,U,U,U,U,U,U,U,U,U,U,U,U,U,U,U,U,U] rfl rfl (Zn HT_.out (by kernel_rfl)) (fun _ _ _ h => h) (Or.inl ⟨by rfl,?_⟩) ?_ ?_;rotate_left
                    · intro w'
                      go_simp;with_reducible rfl
                    rotate_left
                    · simp only [Act.put,YV,YW,YX,i64_w,i32_w]
                      rfl
                    refine pure_ (i := 10) (N := some 43) (v := ?_) (a' := ?_) #[Y,Y,Y,Y,Y,Y,Y,Y,Y,Y,Y,U,U,U,U,U,U,U,U,U,U,U,U,U,U,U,U,U,U,U,U] rfl rfl (Zn HT_.out (by kernel_rfl)) (fun _ _ _ h => h) (Or.inl ⟨by rfl,?_⟩) ?_ ?_;rotate_left
                    · intro w'
                      go_simp;with_reducible rfl
                    rotate_left
                    · simp only [Act.put,YV,YW,YX,i64_w,i32_w]
                      rfl
                    refine pure_ (i := 11) (N := some 44) (v := ?_) (a' := ?_) #[Y,Y,Y,Y,Y,Y,Y,Y,Y,Y,Y,Y,U,U,U,U,U,U,U,U,U,U,U,U,U,U,U,U,U,U,U] rfl rfl (Zn HT_.out (by kernel_rfl)) (fun _ _ _ h => h) (Or.inl ⟨by rfl,?_⟩) ?_ ?_;rotate_left
                    · intro w'
                      go_simp;with_reducible rfl
                    rotate_left
                    · simp only [Act.put,YV,YW,YX,i64_w,i32_w]
                      rfl
                    refine take_ (i := 12) (N := some 45) (v := ?_) (a' := ?_) #[Y,Y,Y,Y,Y,Y,Y,Y,Y,Y,Y,Y,Y,U,U,U,U,U,U,U,U,U,U,U,U,U,U,U,U,U,U] rfl rfl (Xh HT_.out HW_.out (by kernel_rfl)) (fun _ _ _ h => h) (Or.inl ⟨by rfl,?_⟩) hHeld ?_ ?_;rotate_left
                    · rintro w' ⟨s0,s1,s2⟩
                      go_simp;with_reducible rfl
                    rotate_left
                    · simp only [Act.put,YV,YW,YX,i64_w,i32_w]
                      rfl
                    refine one_ (i := 13) (N := some 46) #[Y,Y,Y,Y,Y,Y,Y,Y,Y,Y,Y,Y,Y,Y,U,U,U,U,U,U,U,U,U,U,U,U,U,U,U,U,U] rfl rfl (X7 HT_.out (by kernel_rfl)) (by decide) (fun K hK => ?_);refine goes_ Try.func43 (by kernel_rfl) rfl #[.int .i64 ((Zf l0 x28_2).f0),.int .i64 0,.int .i64 1000000000] (by rfl) rfl rfl (by (try simp only [List.map_toArray,List.map_cons,List.map_nil]);first | done | rfl | (simp only [List.length_drop,List.length_take];rfl)) ?_
                    with_reducible refine (Z1.calls ((Zf l0 x28_2).f0) 0 1000000000 false _ A21.out).mono ?_
                    rintro e w' ⟨rfl,⟨nd,rfl⟩⟩;refine ⟨_,rfl,?_⟩;refine hK.out _ _ ⟨(Zm BK112.out 0).trans rfl,(Zm BK112.out 1).trans rfl,(Zm BK112.out 2).trans rfl⟩ (fun hHeld => ?_);clear hK K;refine norm_ (a' := ?_) ?_ ?_;rotate_left
                    · show Act.put _ (some 46) _ = _
                      simp only [Act.put,YV,YW,YX,i64_w,i32_w];rfl
                    refine pure_ (i := 14) (N := some 47) (v := ?_) (a' := ?_) #[Y,Y,Y,Y,Y,Y,Y,Y,Y,Y,Y,Y,Y,Y,Y,U,U,U,U,U,U,U,U,U,U,U,U,U,U,U,U] rfl rfl (Zn HT_.out (by kernel_rfl)) (fun _ _ _ h => h) (Or.inl ⟨by rfl,?_⟩) ?_ ?_;rotate_left
                    · intro w'
                      go_simp;with_reducible rfl
                    rotate_left
                    · simp only [Act.put,YV,YW,YX,i64_w,i32_w]
                      rfl
                    refine pure_ (i := 15) (N := some 48) (v := ?_) (a' := ?_) #[Y,Y,Y,Y,Y,Y,Y,Y,Y,Y,Y,Y,Y,Y,Y,Y,U,U,U,U,U,U,U,U,U,U,U,U,U,U,U] rfl rfl (Zn HT_.out (by kernel_rfl)) (fun _ _ _ h => h) (Or.inl ⟨by rfl,?_⟩) ?_ ?_;rotate_left
                    · intro w'
                      go_simp;with_reducible rfl
                    rotate_left
                    · simp only [Act.put,YV,YW,YX,i64_w,i32_w]
                      rfl
                    refine pure_ (i := 16) (N := some 49) (v := ?_) (a' := ?_) #[Y,Y,Y,Y,Y,Y,Y,Y,Y,Y,Y,Y,Y,Y,Y,Y,Y,U,U,U,U,U,U,U,U,U,U,U,U,U,U] rfl rfl (Zn HT_.out (by kernel_rfl)) (fun _ _ _ h => h) (Or.inl ⟨by rfl,?_⟩) ?_ ?_;rotate_left
                    · intro w'
                      go_simp;with_reducible rfl
                    rotate_left
                    · simp only [Act.put,YV,YW,YX,i64_w,i32_w]
                      rfl
                    refine pure_ (i := 17) (N := some 50) (v := undef) (a' := ?_) #[Y,Y,Y,Y,Y,Y,Y,Y,Y,Y,Y,Y,Y,Y,Y,Y,Y,Y,U,U,U,U,U,U,U,U,U,U,U,U,U] rfl rfl (Zn HT_.out (by kernel_rfl)) (fun _ _ _ h => h) (Or.inr ⟨by rfl,rfl⟩) ?_ ?_;rotate_left
                    · simp only [Act.put,YV,YW,YX,i64_w,i32_w]
                      rfl
                    refine pure_ (i := 18) (N := some 51) (v := undef) (a' := ?_) #[Y,Y,Y,Y,Y,Y,Y,Y,Y,Y,Y,Y,Y,Y,Y,Y,Y,Y,Y,U,U,U,U,U,U,U,U,U,U,U,U] rfl rfl (Zn HT_.out (by kernel_rfl)) (fun _ _ _ h => h) (Or.inr ⟨by rfl,rfl⟩) ?_ ?_;rotate_left
                    · simp only [Act.put,YV,YW,YX,i64_w,i32_w]
                      rfl
                    refine pure_ (i := 19) (N := some 52) (v := undef) (a' := ?_) #[Y,Y,Y,Y,Y,Y,Y,Y,Y,Y,Y,Y,Y,Y,Y,Y,Y,Y,Y,Y,U,U,U,U,U,U,U,U,U,U,U] rfl rfl (Zn HT_.out (by kernel_rfl)) (fun _ _ _ h => h) (Or.inr ⟨by rfl,rfl⟩) ?_ ?_;rotate_left
                    · simp only [Act.put,YV,YW,YX,i64_w,i32_w]
                      rfl
                    refine pure_ (i := 20) (N := some 53) (v := undef) (a' := ?_) #[Y,Y,Y,Y,Y,Y,Y,Y,Y,Y,Y,Y,Y,Y,Y,Y,Y,Y,Y,Y,Y,U,U,U,U,U,U,U,U,U,U] rfl rfl (Zn HT_.out (by kernel_rfl)) (fun _ _ _ h => h) (Or.inr ⟨by rfl,rfl⟩) ?_ ?_;rotate_left
                    · simp only [Act.put,YV,YW,YX,i64_w,i32_w]
                      rfl
                    refine pure_ (i := 21) (N := some 54) (v := undef) (a' := ?_) #[Y,Y,Y,Y,Y,Y,Y,Y,Y,Y,Y,Y,Y,Y,Y,Y,Y,Y,Y,Y,Y,Y,U,U,U,U,U,U,U,U,U] rfl rfl (Zn HT_.out (by kernel_rfl)) (fun _ _ _ h => h) (Or.inr ⟨by rfl,rfl⟩) ?_ ?_;rotate_left
                    · simp only [Act.put,YV,YW,YX,i64_w,i32_w]
                      rfl
                    refine pure_ (i := 22) (N := some 55) (v := undef) (a' := ?_) #[Y,Y,Y,Y,Y,Y,Y,Y,Y,Y,Y,Y,Y,Y,Y,Y,Y,Y,Y,Y,Y,Y,Y,U,U,U,U,U,U,U,U] rfl rfl (Zn HT_.out (by kernel_rfl)) (fun _ _ _ h => h) (Or.inr ⟨by rfl,rfl⟩) ?_ ?_;rotate_left
                    · simp only [Act.put,YV,YW,YX,i64_w,i32_w]
                      rfl
                    refine pure_ (i := 23) (N := some 56) (v := undef) (a' := ?_) #[Y,Y,Y,Y,Y,Y,Y,Y,Y,Y,Y,Y,Y,Y,Y,Y,Y,Y,Y,Y,Y,Y,Y,Y,U,U,U,U,U,U,U] rfl rfl (Zn HT_.out (by kernel_rfl)) (fun _ _ _ h => h) (Or.inr ⟨by rfl,rfl⟩) ?_ ?_;rotate_left
                    · simp only [Act.put,YV,YW,YX,i64_w,i32_w]
                      rfl
                    refine pure_ (i := 24) (N := some 57) (v := undef) (a' := ?_) #[Y,Y,Y,Y,Y,Y,Y,Y,Y,Y,Y,Y,Y,Y,Y,Y,Y,Y,Y,Y,Y,Y,Y,Y,Y,U,U,U,U,U,U] rfl rfl (Zn HT_.out (by kernel_rfl)) (fun _ _ _ h => h) (Or.inr ⟨by rfl,rfl⟩) ?_ ?_;rotate_left
                    · simp only [Act.put,YV,YW,YX,i64_w,i32_w]
                      rfl
                    refine pure_ (i := 25) (N := some 58) (v := undef) (a' := ?_) #[Y,Y,Y,Y,Y,Y,Y,Y,Y,Y,Y,Y,Y,Y,Y,Y,Y,Y,Y,Y,Y,Y,Y,Y,Y,Y,U,U,U,U,U] rfl rfl (Zn HT_.out (by kernel_rfl)) (fun _ _ _ h => h) (Or.inr ⟨by rfl,rfl⟩) ?_ ?_;rotate_left
                    · simp only [Act.put,YV,YW,YX,i64_w,i32_w]
                      rfl
                    refine pure_ (i := 26) (N := some 59) (v := undef) (a' := ?_) #[Y,Y,Y,Y,Y,Y,Y,Y,Y,Y,Y,Y,Y,Y,Y,Y,Y,Y,Y,Y,Y,Y,Y,Y,Y,Y,Y,U,U,U,U] rfl rfl (Zn HT_.out (by kernel_rfl)) (fun _ _ _ h => h) (Or.inr ⟨by rfl,rfl⟩) ?_ ?_;rotate_left
                    · simp only [Act.put,YV,YW,YX,i64_w,i32_w]
                      rfl
                    refine pure_ (i := 27) (N := some 60) (v := undef) (a' := ?_) #[Y,Y,Y,Y,Y,Y,Y,Y,Y,Y,Y,Y,Y,Y,Y,Y,Y,Y,Y,Y,Y,Y,Y,Y,Y,Y,Y,Y,U,U,U] rfl rfl (Zn HT_.out (by kernel_rfl)) (fun _ _ _ h => h) (Or.inr ⟨by rfl,rfl⟩) ?_ ?_;rotate_left
                    · simp only [Act.put,YV,YW,YX,i64_w,i32_w]
                      rfl
                    refine pure_ (i := 28) (N := some 61) (v := undef) (a' := ?_) #[Y,Y,Y,Y,Y,Y,Y,Y,Y,Y,Y,Y,Y,Y,Y,Y,Y,Y,Y,Y,Y,Y,Y,Y,Y,Y,Y,Y,Y,U,U] rfl rfl (Zn HT_.out (by kernel_rfl)) (fun _ _ _ h => h) (Or.inr ⟨by rfl,rfl⟩) ?_ ?_;rotate_left
                    · simp only [Act.put,YV,YW,YX,i64_w,i32_w]
                      rfl
                    refine pure_ (i := 29) (N := some 62) (v := undef) (a' := ?_) #[Y,Y,Y,Y,Y,Y,Y,Y,Y,Y,Y,Y,Y,Y,Y,Y,Y,Y,Y,Y,Y,Y,Y,Y,Y,Y,Y,Y,Y,Y,U] rfl rfl (Zn HT_.out (by kernel_rfl)) (fun _ _ _ h => h) (Or.inr ⟨by rfl,rfl⟩) ?_ ?_;rotate_left
                    · simp only [Act.put,YV,YW,YX,i64_w,i32_w]
                      rfl
                    refine pure_ (i := 30) (N := some 63) (v := ?_) (a' := ?_) #[Y,Y,Y,Y,Y,Y,Y,Y,Y,Y,Y,Y,Y,Y,Y,Y,Y,Y,Y,Y,Y,Y,Y,Y,Y,Y,Y,Y,Y,Y,Y] rfl rfl (Zn HT_.out (by kernel_rfl)) (fun _ _ _ h => h) (Or.inl ⟨by rfl,?_⟩) ?_ ?_;rotate_left
                    · intro w'
                      go_simp;with_reducible rfl
                    rotate_left
                    · simp only [Act.put,YV,YW,YX,i64_w,i32_w]
                      rfl
                    refine done_ (XA HT_.out (by kernel_rfl)) ?_
                    try go_wp2
                    go_meet
                    case rel => exact ⟨_,(true),(by first | rfl | (simp;done) | (simp [*];done)),H',⟨by have := HJ1.out;have := HK2.out;first | omega | exact Nat.le_refl _⟩,⟨by (with_reducible repeat (first | refine Zu ?_ _ | refine Zw ?_ | refine Zs ?_ _));exact BK112.out⟩,⟨by repeat (first | (with_reducible first | exact HB.out | apply Zc | apply Za | apply Zb | refine Z9 ?_ GE112.out) | exact HB.out)⟩⟩
                · replace c20 := Bool.eq_false_iff.mpr c20
                  subst c20
                  have H1 : (Zy.j2 k2 l0 x28_2 l0 (l0.length : Int) x28_2 true ((Zf l0 x28_2).f0) ((Zf l0 x28_2).f1) ((Zf l0 x28_2).f2)) = some r := by rw [if_neg (show ¬ (false = true) by decide)] at H;exact H
                  clear H;have H := H1;clear H1;have H' := Zd.mk H;clear H
                  try go_wp2
                  have n0_ : Zd ((((w15.setCell ⟨gb112,0,none⟩ (.int .i64 ((Zf l0 x28_2).f0))).setCell ⟨gb112,1,none⟩ (.int .i64 ((Zf l0 x28_2).f1))).setCell ⟨gb112,2,none⟩ (.int .i64 ((Zf l0 x28_2).f2))).heap[gb112]? = some (.cells #[.int .i64 ((Zf l0 x28_2).f0),.int .i64 ((Zf l0 x28_2).f1),.int .i64 ((Zf l0 x28_2).f2)] 27 (0,0))) := ⟨by (with_reducible repeat (first | refine Zu ?_ _ | refine Zw ?_ | refine Zs ?_ _));refine ZE (cs := #[.int .i64 ((Zf l0 x28_2).f0),.int .i64 ((Zf l0 x28_2).f1),.int .i64 0]) ?_ 2 _ rfl;(with_reducible repeat (first | refine Zu ?_ _ | refine Zw ?_ | refine Zs ?_ _));refine ZE (cs := #[.int .i64 ((Zf l0 x28_2).f0),.int .i64 0,.int .i64 0]) ?_ 1 _ rfl;(with_reducible repeat (first | refine Zu ?_ _ | refine Zw ?_ | refine Zs ?_ _));refine ZE (cs := #[.int .i64 0,.int .i64 0,.int .i64 0]) ?_ 0 _ rfl;(with_reducible repeat (first | refine Zu ?_ _ | refine Zw ?_ | refine Zs ?_ _));exact BK112.out⟩
                  have n1_ : Zd (Below w.heap.size w (((w15.setCell ⟨gb112,0,none⟩ (.int .i64 ((Zf l0 x28_2).f0))).setCell ⟨gb112,1,none⟩ (.int .i64 ((Zf l0 x28_2).f1))).setCell ⟨gb112,2,none⟩ (.int .i64 ((Zf l0 x28_2).f2)))) := ⟨by repeat (first | (with_reducible first | exact HB.out | apply Zc | apply Za | apply Zb | refine Z9 ?_ GE112.out) | exact HB.out)⟩
                  (try clear BK112)
                  (try clear HB)
                  generalize (((w15.setCell ⟨gb112,0,none⟩ (.int .i64 ((Zf l0 x28_2).f0))).setCell ⟨gb112,1,none⟩ (.int .i64 ((Zf l0 x28_2).f1))).setCell ⟨gb112,2,none⟩ (.int .i64 ((Zf l0 x28_2).f2))) = w33 at n0_ n1_ ⊢;have BK112 := n0_;have HB := n1_;clear n0_ n1_;have n0_ := Zd.mk (Zw BK112.out);have n1_ := Zd.mk (Zb HB.out);clear BK112;clear HB;have BK112 := n0_;have HB := n1_;clear n0_ n1_;refine XE (n := 31) (S := fun w' => w'.cell? ⟨gb112,0,none⟩ = some (.int .i64 ((Zf l0 x28_2).f0)) ∧ w'.cell? ⟨gb112,1,none⟩ = some (.int .i64 ((Zf l0 x28_2).f1)) ∧ w'.cell? ⟨gb112,2,none⟩ = some (.int .i64 ((Zf l0 x28_2).f2))) (ds := []) #[U,U,U,U,U,U,U,U,U,U,U,U,U,U,U,U,U,U,U,U,U,U,U,U,U,U,U,U,U,U,U] (by kernel_rfl) rfl rfl ⟨(Zm BK112.out 0).trans rfl,(Zm BK112.out 1).trans rfl,(Zm BK112.out 2).trans rfl⟩ (fun hHeld => ?_);refine X2 Zy.tab6 Zy.bits6 (fun HT_ HW_ => ?_);generalize w33.drew = w34 at BK112 HB hHeld ⊢;refine pure_ (i := 0) (N := some 33) (v := ?_) (a' := ?_) #[Y,U,U,U,U,U,U,U,U,U,U,U,U,U,U,U,U,U,U,U,U,U,U,U,U,U,U,U,U,U,U] rfl rfl (Zn HT_.out (by kernel_rfl)) (fun _ _ _ h => h) (Or.inl ⟨by rfl,?_⟩) ?_ ?_;rotate_left
                  · intro w'
                    go_simp;with_reducible rfl
                  rotate_left
                  · simp only [Act.put,YV,YW,YX,i64_w,i32_w]
                    rfl
                  refine take_ (i := 1) (N := some 34) (v := ?_) (a' := ?_) #[Y,Y,U,U,U,U,U,U,U,U,U,U,U,U,U,U,U,U,U,U,U,U,U,U,U,U,U,U,U,U,U] rfl rfl (Xh HT_.out HW_.out (by kernel_rfl)) (fun _ _ _ h => h) (Or.inl ⟨by rfl,?_⟩) hHeld ?_ ?_;rotate_left
                  · rintro w' ⟨s0,s1,s2⟩
                    go_simp;with_reducible rfl
                  rotate_left
                  · simp only [Act.put,YV,YW,YX,i64_w,i32_w]
                    rfl
                  refine one_ (i := 2) (N := some 35) #[Y,Y,Y,U,U,U,U,U,U,U,U,U,U,U,U,U,U,U,U,U,U,U,U,U,U,U,U,U,U,U,U] rfl rfl (X7 HT_.out (by kernel_rfl)) (by decide) (fun K hK => ?_);refine goes_ Try.func43 (by kernel_rfl) rfl #[.int .i64 ((Zf l0 x28_2).f1),.int .i64 1,.int .i64 67108864] (by rfl) rfl rfl (by (try simp only [List.map_toArray,List.map_cons,List.map_nil]);first | done | rfl | (simp only [List.length_drop,List.length_take];rfl)) ?_
                  with_reducible refine (Z1.calls ((Zf l0 x28_2).f1) 1 67108864 true _ A17.out).mono ?_
                  rintro e w' ⟨rfl,⟨nd,rfl⟩⟩;refine ⟨_,rfl,?_⟩;refine hK.out _ _ ⟨(Zm BK112.out 0).trans rfl,(Zm BK112.out 1).trans rfl,(Zm BK112.out 2).trans rfl⟩ (fun hHeld => ?_);clear hK K;refine norm_ (a' := ?_) ?_ ?_;rotate_left
                  · show Act.put _ (some 35) _ = _
                    simp only [Act.put,YV,YW,YX,i64_w,i32_w];rfl
                  refine pure_ (i := 3) (N := some 36) (v := ?_) (a' := ?_) #[Y,Y,Y,Y,U,U,U,U,U,U,U,U,U,U,U,U,U,U,U,U,U,U,U,U,U,U,U,U,U,U,U] rfl rfl (Zn HT_.out (by kernel_rfl)) (fun _ _ _ h => h) (Or.inl ⟨by rfl,?_⟩) ?_ ?_;rotate_left
                  · intro w'
                    go_simp;with_reducible rfl
                  rotate_left
                  · simp only [Act.put,YV,YW,YX,i64_w,i32_w]
                    rfl
                  refine pure_ (i := 4) (N := some 37) (v := ?_) (a' := ?_) #[Y,Y,Y,Y,Y,U,U,U,U,U,U,U,U,U,U,U,U,U,U,U,U,U,U,U,U,U,U,U,U,U,U] rfl rfl (Zn HT_.out (by kernel_rfl)) (fun _ _ _ h => h) (Or.inl ⟨by rfl,?_⟩) ?_ ?_;rotate_left
                  · intro w'
                    go_simp;with_reducible rfl
                  rotate_left
                  · simp only [Act.put,YV,YW,YX,i64_w,i32_w]
                    rfl
                  refine pure_ (i := 5) (N := some 38) (v := ?_) (a' := ?_) #[Y,Y,Y,Y,Y,Y,U,U,U,U,U,U,U,U,U,U,U,U,U,U,U,U,U,U,U,U,U,U,U,U,U] rfl rfl (Zn HT_.out (by kernel_rfl)) (fun _ _ _ h => h) (Or.inl ⟨by rfl,?_⟩) ?_ ?_;rotate_left
                  · intro w'
                    go_simp;with_reducible rfl
                  rotate_left
                  · simp only [Act.put,YV,YW,YX,i64_w,i32_w]
                    rfl
                  refine take_ (i := 6) (N := some 39) (v := ?_) (a' := ?_) #[Y,Y,Y,Y,Y,Y,Y,U,U,U,U,U,U,U,U,U,U,U,U,U,U,U,U,U,U,U,U,U,U,U,U] rfl rfl (Xh HT_.out HW_.out (by kernel_rfl)) (fun _ _ _ h => h) (Or.inl ⟨by rfl,?_⟩) hHeld ?_ ?_;rotate_left
                  · rintro w' ⟨s0,s1,s2⟩
                    go_simp;with_reducible rfl
                  rotate_left
                  · simp only [Act.put,YV,YW,YX,i64_w,i32_w]
                    rfl
                  refine one_ (i := 7) (N := some 40) #[Y,Y,Y,Y,Y,Y,Y,Y,U,U,U,U,U,U,U,U,U,U,U,U,U,U,U,U,U,U,U,U,U,U,U] rfl rfl (X7 HT_.out (by kernel_rfl)) (by decide) (fun K hK => ?_);refine goes_ Try.func43 (by kernel_rfl) rfl #[.int .i64 ((Zf l0 x28_2).f2),.int .i64 0,.int .i64 1] (by rfl) rfl rfl (by (try simp only [List.map_toArray,List.map_cons,List.map_nil]);first | done | rfl | (simp only [List.length_drop,List.length_take];rfl)) ?_
                  with_reducible refine (Z1.calls ((Zf l0 x28_2).f2) 0 1 false _ A19.out).mono ?_
                  rintro e w' ⟨rfl,⟨nd,rfl⟩⟩;refine ⟨_,rfl,?_⟩;refine hK.out _ _ ⟨(Zm BK112.out 0).trans rfl,(Zm BK112.out 1).trans rfl,(Zm BK112.out 2).trans rfl⟩ (fun hHeld => ?_);clear hK K;refine norm_ (a' := ?_) ?_ ?_;rotate_left
                  · show Act.put _ (some 40) _ = _
                    simp only [Act.put,YV,YW,YX,i64_w,i32_w];rfl
                  refine pure_ (i := 8) (N := some 41) (v := ?_) (a' := ?_) #[Y,Y,Y,Y,Y,Y,Y,Y,Y,U,U,U,U,U,U,U,U,U,U,U,U,U,U,U,U,U,U,U,U,U,U] rfl rfl (Zn HT_.out (by kernel_rfl)) (fun _ _ _ h => h) (Or.inl ⟨by rfl,?_⟩) ?_ ?_;rotate_left
                  · intro w'
                    go_simp;with_reducible rfl
                  rotate_left
                  · simp only [Act.put,YV,YW,YX,i64_w,i32_w]
                    rfl
                  refine pure_ (i := 9) (N := some 42) (v := ?_) (a' := ?_) #[Y,Y,Y,Y,Y,Y,Y,Y,Y,Y,U,U,U,U,U,U,U,U,U,U,U,U,U,U,U,U,U,U,U,U,U] rfl rfl (Zn HT_.out (by kernel_rfl)) (fun _ _ _ h => h) (Or.inl ⟨by rfl,?_⟩) ?_ ?_;rotate_left
                  · intro w'
                    go_simp;with_reducible rfl
                  rotate_left
                  · simp only [Act.put,YV,YW,YX,i64_w,i32_w]
                    rfl
                  refine pure_ (i := 10) (N := some 43) (v := ?_) (a' := ?_) #[Y,Y,Y,Y,Y,Y,Y,Y,Y,Y,Y,U,U,U,U,U,U,U,U,U,U,U,U,U,U,U,U,U,U,U,U] rfl rfl (Zn HT_.out (by kernel_rfl)) (fun _ _ _ h => h) (Or.inl ⟨by rfl,?_⟩) ?_ ?_;rotate_left
                  · intro w'
                    go_simp;with_reducible rfl
                  rotate_left
                  · simp only [Act.put,YV,YW,YX,i64_w,i32_w]
                    rfl
                  refine pure_ (i := 11) (N := some 44) (v := undef) (a' := ?_) #[Y,Y,Y,Y,Y,Y,Y,Y,Y,Y,Y,Y,U,U,U,U,U,U,U,U,U,U,U,U,U,U,U,U,U,U,U] rfl rfl (Zn HT_.out (by kernel_rfl)) (fun _ _ _ h => h) (Or.inr ⟨by rfl,rfl⟩) ?_ ?_;rotate_left
                  · simp only [Act.put,YV,YW,YX,i64_w,i32_w]
                    rfl
                  refine pure_ (i := 12) (N := some 45) (v := undef) (a' := ?_) #[Y,Y,Y,Y,Y,Y,Y,Y,Y,Y,Y,Y,Y,U,U,U,U,U,U,U,U,U,U,U,U,U,U,U,U,U,U] rfl rfl (Zn HT_.out (by kernel_rfl)) (fun _ _ _ h => h) (Or.inr ⟨by rfl,rfl⟩) ?_ ?_;rotate_left
                  · simp only [Act.put,YV,YW,YX,i64_w,i32_w]
                    rfl
                  refine pure_ (i := 13) (N := some 46) (v := undef) (a' := ?_) #[Y,Y,Y,Y,Y,Y,Y,Y,Y,Y,Y,Y,Y,Y,U,U,U,U,U,U,U,U,U,U,U,U,U,U,U,U,U] rfl rfl (Zn HT_.out (by kernel_rfl)) (fun _ _ _ h => h) (Or.inr ⟨by rfl,rfl⟩) ?_ ?_;rotate_left
                  · simp only [Act.put,YV,YW,YX,i64_w,i32_w]
                    rfl
                  refine pure_ (i := 14) (N := some 47) (v := undef) (a' := ?_) #[Y,Y,Y,Y,Y,Y,Y,Y,Y,Y,Y,Y,Y,Y,Y,U,U,U,U,U,U,U,U,U,U,U,U,U,U,U,U] rfl rfl (Zn HT_.out (by kernel_rfl)) (fun _ _ _ h => h) (Or.inr ⟨by rfl,rfl⟩) ?_ ?_;rotate_left
                  · simp only [Act.put,YV,YW,YX,i64_w,i32_w]
                    rfl
                  refine pure_ (i := 15) (N := some 48) (v := ?_) (a' := ?_) #[Y,Y,Y,Y,Y,Y,Y,Y,Y,Y,Y,Y,Y,Y,Y,Y,U,U,U,U,U,U,U,U,U,U,U,U,U,U,U] rfl rfl (Zn HT_.out (by kernel_rfl)) (fun _ _ _ h => h) (Or.inl ⟨by rfl,?_⟩) ?_ ?_;rotate_left
                  · intro w'
                    go_simp;with_reducible rfl
                  rotate_left
                  · simp only [Act.put,YV,YW,YX,i64_w,i32_w]
                    rfl
                  refine pure_ (i := 16) (N := some 49) (v := ?_) (a' := ?_) #[Y,Y,Y,Y,Y,Y,Y,Y,Y,Y,Y,Y,Y,Y,Y,Y,Y,U,U,U,U,U,U,U,U,U,U,U,U,U,U] rfl rfl (Zn HT_.out (by kernel_rfl)) (fun _ _ _ h => h) (Or.inl ⟨by rfl,?_⟩) ?_ ?_;rotate_left
                  · intro w'
                    go_simp;with_reducible rfl
                  rotate_left
                  · simp only [Act.put,YV,YW,YX,i64_w,i32_w]
                    rfl
                  refine pure_ (i := 17) (N := some 50) (v := undef) (a' := ?_) #[Y,Y,Y,Y,Y,Y,Y,Y,Y,Y,Y,Y,Y,Y,Y,Y,Y,Y,U,U,U,U,U,U,U,U,U,U,U,U,U] rfl rfl (Zn HT_.out (by kernel_rfl)) (fun _ _ _ h => h) (Or.inr ⟨by rfl,rfl⟩) ?_ ?_;rotate_left
                  · simp only [Act.put,YV,YW,YX,i64_w,i32_w]
                    rfl
                  refine pure_ (i := 18) (N := some 51) (v := undef) (a' := ?_) #[Y,Y,Y,Y,Y,Y,Y,Y,Y,Y,Y,Y,Y,Y,Y,Y,Y,Y,Y,U,U,U,U,U,U,U,U,U,U,U,U] rfl rfl (Zn HT_.out (by kernel_rfl)) (fun _ _ _ h => h) (Or.inr ⟨by rfl,rfl⟩) ?_ ?_;rotate_left
                  · simp only [Act.put,YV,YW,YX,i64_w,i32_w]
                    rfl
                  refine pure_ (i := 19) (N := some 52) (v := undef) (a' := ?_) #[Y,Y,Y,Y,Y,Y,Y,Y,Y,Y,Y,Y,Y,Y,Y,Y,Y,Y,Y,Y,U,U,U,U,U,U,U,U,U,U,U] rfl rfl (Zn HT_.out (by kernel_rfl)) (fun _ _ _ h => h) (Or.inr ⟨by rfl,rfl⟩) ?_ ?_;rotate_left
                  · simp only [Act.put,YV,YW,YX,i64_w,i32_w]
                    rfl
                  refine pure_ (i := 20) (N := some 53) (v := undef) (a' := ?_) #[Y,Y,Y,Y,Y,Y,Y,Y,Y,Y,Y,Y,Y,Y,Y,Y,Y,Y,Y,Y,Y,U,U,U,U,U,U,U,U,U,U] rfl rfl (Zn HT_.out (by kernel_rfl)) (fun _ _ _ h => h) (Or.inr ⟨by rfl,rfl⟩) ?_ ?_;rotate_left
                  · simp only [Act.put,YV,YW,YX,i64_w,i32_w]
                    rfl
                  refine pure_ (i := 21) (N := some 54) (v := undef) (a' := ?_) #[Y,Y,Y,Y,Y,Y,Y,Y,Y,Y,Y,Y,Y,Y,Y,Y,Y,Y,Y,Y,Y,Y,U,U,U,U,U,U,U,U,U] rfl rfl (Zn HT_.out (by kernel_rfl)) (fun _ _ _ h => h) (Or.inr ⟨by rfl,rfl⟩) ?_ ?_;rotate_left
                  · simp only [Act.put,YV,YW,YX,i64_w,i32_w]
                    rfl
                  refine pure_ (i := 22) (N := some 55) (v := undef) (a' := ?_) #[Y,Y,Y,Y,Y,Y,Y,Y,Y,Y,Y,Y,Y,Y,Y,Y,Y,Y,Y,Y,Y,Y,Y,U,U,U,U,U,U,U,U] rfl rfl (Zn HT_.out (by kernel_rfl)) (fun _ _ _ h => h) (Or.inr ⟨by rfl,rfl⟩) ?_ ?_;rotate_left
                  · simp only [Act.put,YV,YW,YX,i64_w,i32_w]
                    rfl
                  refine pure_ (i := 23) (N := some 56) (v := undef) (a' := ?_) #[Y,Y,Y,Y,Y,Y,Y,Y,Y,Y,Y,Y,Y,Y,Y,Y,Y,Y,Y,Y,Y,Y,Y,Y,U,U,U,U,U,U,U] rfl rfl (Zn HT_.out (by kernel_rfl)) (fun _ _ _ h => h) (Or.inr ⟨by rfl,rfl⟩) ?_ ?_;rotate_left
                  · simp only [Act.put,YV,YW,YX,i64_w,i32_w]
                    rfl
                  refine pure_ (i := 24) (N := some 57) (v := undef) (a' := ?_) #[Y,Y,Y,Y,Y,Y,Y,Y,Y,Y,Y,Y,Y,Y,Y,Y,Y,Y,Y,Y,Y,Y,Y,Y,Y,U,U,U,U,U,U] rfl rfl (Zn HT_.out (by kernel_rfl)) (fun _ _ _ h => h) (Or.inr ⟨by rfl,rfl⟩) ?_ ?_;rotate_left
                  · simp only [Act.put,YV,YW,YX,i64_w,i32_w]
                    rfl
                  refine pure_ (i := 25) (N := some 58) (v := undef) (a' := ?_) #[Y,Y,Y,Y,Y,Y,Y,Y,Y,Y,Y,Y,Y,Y,Y,Y,Y,Y,Y,Y,Y,Y,Y,Y,Y,Y,U,U,U,U,U] rfl rfl (Zn HT_.out (by kernel_rfl)) (fun _ _ _ h => h) (Or.inr ⟨by rfl,rfl⟩) ?_ ?_;rotate_left
                  · simp only [Act.put,YV,YW,YX,i64_w,i32_w]
                    rfl
                  refine pure_ (i := 26) (N := some 59) (v := undef) (a' := ?_) #[Y,Y,Y,Y,Y,Y,Y,Y,Y,Y,Y,Y,Y,Y,Y,Y,Y,Y,Y,Y,Y,Y,Y,Y,Y,Y,Y,U,U,U,U] rfl rfl (Zn HT_.out (by kernel_rfl)) (fun _ _ _ h => h) (Or.inr ⟨by rfl,rfl⟩) ?_ ?_;rotate_left
                  · simp only [Act.put,YV,YW,YX,i64_w,i32_w]
                    rfl
                  refine pure_ (i := 27) (N := some 60) (v := undef) (a' := ?_) #[Y,Y,Y,Y,Y,Y,Y,Y,Y,Y,Y,Y,Y,Y,Y,Y,Y,Y,Y,Y,Y,Y,Y,Y,Y,Y,Y,Y,U,U,U] rfl rfl (Zn HT_.out (by kernel_rfl)) (fun _ _ _ h => h) (Or.inr ⟨by rfl,rfl⟩) ?_ ?_;rotate_left
                  · simp only [Act.put,YV,YW,YX,i64_w,i32_w]
                    rfl
                  refine pure_ (i := 28) (N := some 61) (v := undef) (a' := ?_) #[Y,Y,Y,Y,Y,Y,Y,Y,Y,Y,Y,Y,Y,Y,Y,Y,Y,Y,Y,Y,Y,Y,Y,Y,Y,Y,Y,Y,Y,U,U] rfl rfl (Zn HT_.out (by kernel_rfl)) (fun _ _ _ h => h) (Or.inr ⟨by rfl,rfl⟩) ?_ ?_;rotate_left
                  · simp only [Act.put,YV,YW,YX,i64_w,i32_w]
                    rfl
                  refine pure_ (i := 29) (N := some 62) (v := undef) (a' := ?_) #[Y,Y,Y,Y,Y,Y,Y,Y,Y,Y,Y,Y,Y,Y,Y,Y,Y,Y,Y,Y,Y,Y,Y,Y,Y,Y,Y,Y,Y,Y,U] rfl rfl (Zn HT_.out (by kernel_rfl)) (fun _ _ _ h => h) (Or.inr ⟨by rfl,rfl⟩) ?_ ?_;rotate_left
                  · simp only [Act.put,YV,YW,YX,i64_w,i32_w]
                    rfl
                  refine pure_ (i := 30) (N := some 63) (v := ?_) (a' := ?_) #[Y,Y,Y,Y,Y,Y,Y,Y,Y,Y,Y,Y,Y,Y,Y,Y,Y,Y,Y,Y,Y,Y,Y,Y,Y,Y,Y,Y,Y,Y,Y] rfl rfl (Zn HT_.out (by kernel_rfl)) (fun _ _ _ h => h) (Or.inl ⟨by rfl,?_⟩) ?_ ?_;rotate_left
                  · intro w'
                    go_simp;with_reducible rfl
                  rotate_left
                  · simp only [Act.put,YV,YW,YX,i64_w,i32_w]
                    rfl
                  refine done_ (XA HT_.out (by kernel_rfl)) ?_
                  try go_wp2
                  go_meet
                  case rel => exact ⟨_,(true),(by first | rfl | (simp;done) | (simp [*];done)),H',⟨by have := HJ1.out;have := HK2.out;first | omega | exact Nat.le_refl _⟩,⟨by (with_reducible repeat (first | refine Zu ?_ _ | refine Zw ?_ | refine Zs ?_ _));exact BK112.out⟩,⟨by repeat (first | (with_reducible first | exact HB.out | apply Zc | apply Za | apply Zb | refine Z9 ?_ GE112.out) | exact HB.out)⟩⟩
              · replace c18 := Bool.eq_false_iff.mpr c18
                subst c18
                have H1 : (Zy.j2 k2 l0 x28_2 l0 (l0.length : Int) x28_2 true ((Zf l0 x28_2).f0) ((Zf l0 x28_2).f1) ((Zf l0 x28_2).f2)) = some r := by rw [if_neg (show ¬ (false = true) by decide)] at H;exact H
                clear H;have H := H1;clear H1;have H' := Zd.mk H;clear H
                try go_wp2
                have n0_ : Zd ((((w15.setCell ⟨gb112,0,none⟩ (.int .i64 ((Zf l0 x28_2).f0))).setCell ⟨gb112,1,none⟩ (.int .i64 ((Zf l0 x28_2).f1))).setCell ⟨gb112,2,none⟩ (.int .i64 ((Zf l0 x28_2).f2))).heap[gb112]? = some (.cells #[.int .i64 ((Zf l0 x28_2).f0),.int .i64 ((Zf l0 x28_2).f1),.int .i64 ((Zf l0 x28_2).f2)] 27 (0,0))) := ⟨by (with_reducible repeat (first | refine Zu ?_ _ | refine Zw ?_ | refine Zs ?_ _));refine ZE (cs := #[.int .i64 ((Zf l0 x28_2).f0),.int .i64 ((Zf l0 x28_2).f1),.int .i64 0]) ?_ 2 _ rfl;(with_reducible repeat (first | refine Zu ?_ _ | refine Zw ?_ | refine Zs ?_ _));refine ZE (cs := #[.int .i64 ((Zf l0 x28_2).f0),.int .i64 0,.int .i64 0]) ?_ 1 _ rfl;(with_reducible repeat (first | refine Zu ?_ _ | refine Zw ?_ | refine Zs ?_ _));refine ZE (cs := #[.int .i64 0,.int .i64 0,.int .i64 0]) ?_ 0 _ rfl;(with_reducible repeat (first | refine Zu ?_ _ | refine Zw ?_ | refine Zs ?_ _));exact BK112.out⟩
                have n1_ : Zd (Below w.heap.size w (((w15.setCell ⟨gb112,0,none⟩ (.int .i64 ((Zf l0 x28_2).f0))).setCell ⟨gb112,1,none⟩ (.int .i64 ((Zf l0 x28_2).f1))).setCell ⟨gb112,2,none⟩ (.int .i64 ((Zf l0 x28_2).f2)))) := ⟨by repeat (first | (with_reducible first | exact HB.out | apply Zc | apply Za | apply Zb | refine Z9 ?_ GE112.out) | exact HB.out)⟩
                (try clear BK112)
                (try clear HB)
                generalize (((w15.setCell ⟨gb112,0,none⟩ (.int .i64 ((Zf l0 x28_2).f0))).setCell ⟨gb112,1,none⟩ (.int .i64 ((Zf l0 x28_2).f1))).setCell ⟨gb112,2,none⟩ (.int .i64 ((Zf l0 x28_2).f2))) = w35 at n0_ n1_ ⊢;have BK112 := n0_;have HB := n1_;clear n0_ n1_;have n0_ := Zd.mk (Zw BK112.out);have n1_ := Zd.mk (Zb HB.out);clear BK112;clear HB;have BK112 := n0_;have HB := n1_;clear n0_ n1_;refine XE (n := 31) (S := fun w' => w'.cell? ⟨gb112,0,none⟩ = some (.int .i64 ((Zf l0 x28_2).f0)) ∧ w'.cell? ⟨gb112,1,none⟩ = some (.int .i64 ((Zf l0 x28_2).f1)) ∧ w'.cell? ⟨gb112,2,none⟩ = some (.int .i64 ((Zf l0 x28_2).f2))) (ds := []) #[U,U,U,U,U,U,U,U,U,U,U,U,U,U,U,U,U,U,U,U,U,U,U,U,U,U,U,U,U,U,U] (by kernel_rfl) rfl rfl ⟨(Zm BK112.out 0).trans rfl,(Zm BK112.out 1).trans rfl,(Zm BK112.out 2).trans rfl⟩ (fun hHeld => ?_);refine X2 Zy.tab6 Zy.bits6 (fun HT_ HW_ => ?_);generalize w35.drew = w36 at BK112 HB hHeld ⊢;refine pure_ (i := 0) (N := some 33) (v := ?_) (a' := ?_) #[Y,U,U,U,U,U,U,U,U,U,U,U,U,U,U,U,U,U,U,U,U,U,U,U,U,U,U,U,U,U,U] rfl rfl (Zn HT_.out (by kernel_rfl)) (fun _ _ _ h => h) (Or.inl ⟨by rfl,?_⟩) ?_ ?_;rotate_left
                · intro w'
                  go_simp;with_reducible rfl
                rotate_left
                · simp only [Act.put,YV,YW,YX,i64_w,i32_w]
                  rfl
                refine take_ (i := 1) (N := some 34) (v := ?_) (a' := ?_) #[Y,Y,U,U,U,U,U,U,U,U,U,U,U,U,U,U,U,U,U,U,U,U,U,U,U,U,U,U,U,U,U] rfl rfl (Xh HT_.out HW_.out (by kernel_rfl)) (fun _ _ _ h => h) (Or.inl ⟨by rfl,?_⟩) hHeld ?_ ?_;rotate_left
                · rintro w' ⟨s0,s1,s2⟩
                  go_simp;with_reducible rfl
                rotate_left
                · simp only [Act.put,YV,YW,YX,i64_w,i32_w]
                  rfl
                refine one_ (i := 2) (N := some 35) #[Y,Y,Y,U,U,U,U,U,U,U,U,U,U,U,U,U,U,U,U,U,U,U,U,U,U,U,U,U,U,U,U] rfl rfl (X7 HT_.out (by kernel_rfl)) (by decide) (fun K hK => ?_);refine goes_ Try.func43 (by kernel_rfl) rfl #[.int .i64 ((Zf l0 x28_2).f1),.int .i64 1,.int .i64 67108864] (by rfl) rfl rfl (by (try simp only [List.map_toArray,List.map_cons,List.map_nil]);first | done | rfl | (simp only [List.length_drop,List.length_take];rfl)) ?_
                with_reducible refine (Z1.calls ((Zf l0 x28_2).f1) 1 67108864 false _ A17.out).mono ?_
                rintro e w' ⟨rfl,⟨nd,rfl⟩⟩;refine ⟨_,rfl,?_⟩;refine hK.out _ _ ⟨(Zm BK112.out 0).trans rfl,(Zm BK112.out 1).trans rfl,(Zm BK112.out 2).trans rfl⟩ (fun hHeld => ?_);clear hK K;refine norm_ (a' := ?_) ?_ ?_;rotate_left
                · show Act.put _ (some 35) _ = _
                  simp only [Act.put,YV,YW,YX,i64_w,i32_w];rfl
                refine pure_ (i := 3) (N := some 36) (v := ?_) (a' := ?_) #[Y,Y,Y,Y,U,U,U,U,U,U,U,U,U,U,U,U,U,U,U,U,U,U,U,U,U,U,U,U,U,U,U] rfl rfl (Zn HT_.out (by kernel_rfl)) (fun _ _ _ h => h) (Or.inl ⟨by rfl,?_⟩) ?_ ?_;rotate_left
                · intro w'
                  go_simp;with_reducible rfl
                rotate_left
                · simp only [Act.put,YV,YW,YX,i64_w,i32_w]
                  rfl
                refine pure_ (i := 4) (N := some 37) (v := ?_) (a' := ?_) #[Y,Y,Y,Y,Y,U,U,U,U,U,U,U,U,U,U,U,U,U,U,U,U,U,U,U,U,U,U,U,U,U,U] rfl rfl (Zn HT_.out (by kernel_rfl)) (fun _ _ _ h => h) (Or.inl ⟨by rfl,?_⟩) ?_ ?_;rotate_left
                · intro w'
                  go_simp;with_reducible rfl
                rotate_left
                · simp only [Act.put,YV,YW,YX,i64_w,i32_w]
                  rfl
                refine pure_ (i := 5) (N := some 38) (v := undef) (a' := ?_) #[Y,Y,Y,Y,Y,Y,U,U,U,U,U,U,U,U,U,U,U,U,U,U,U,U,U,U,U,U,U,U,U,U,U] rfl rfl (Zn HT_.out (by kernel_rfl)) (fun _ _ _ h => h) (Or.inr ⟨by rfl,rfl⟩) ?_ ?_;rotate_left
                · simp only [Act.put,YV,YW,YX,i64_w,i32_w]
                  rfl
                refine pure_ (i := 6) (N := some 39) (v := undef) (a' := ?_) #[Y,Y,Y,Y,Y,Y,Y,U,U,U,U,U,U,U,U,U,U,U,U,U,U,U,U,U,U,U,U,U,U,U,U] rfl rfl (Zn HT_.out (by kernel_rfl)) (fun _ _ _ h => h) (Or.inr ⟨by rfl,rfl⟩) ?_ ?_;rotate_left
                · simp only [Act.put,YV,YW,YX,i64_w,i32_w]
                  rfl
                refine pure_ (i := 7) (N := some 40) (v := undef) (a' := ?_) #[Y,Y,Y,Y,Y,Y,Y,Y,U,U,U,U,U,U,U,U,U,U,U,U,U,U,U,U,U,U,U,U,U,U,U] rfl rfl (Zn HT_.out (by kernel_rfl)) (fun _ _ _ h => h) (Or.inr ⟨by rfl,rfl⟩) ?_ ?_;rotate_left
                · simp only [Act.put,YV,YW,YX,i64_w,i32_w]
                  rfl
                refine pure_ (i := 8) (N := some 41) (v := undef) (a' := ?_) #[Y,Y,Y,Y,Y,Y,Y,Y,Y,U,U,U,U,U,U,U,U,U,U,U,U,U,U,U,U,U,U,U,U,U,U] rfl rfl (Zn HT_.out (by kernel_rfl)) (fun _ _ _ h => h) (Or.inr ⟨by rfl,rfl⟩) ?_ ?_;rotate_left
                · simp only [Act.put,YV,YW,YX,i64_w,i32_w]
                  rfl
                refine pure_ (i := 9) (N := some 42) (v := ?_) (a' := ?_) #[Y,Y,Y,Y,Y,Y,Y,Y,Y,Y,U,U,U,U,U,U,U,U,U,U,U,U,U,U,U,U,U,U,U,U,U] rfl rfl (Zn HT_.out (by kernel_rfl)) (fun _ _ _ h => h) (Or.inl ⟨by rfl,?_⟩) ?_ ?_;rotate_left
                · intro w'
                  go_simp;with_reducible rfl
                rotate_left
                · simp only [Act.put,YV,YW,YX,i64_w,i32_w]
                  rfl
                refine pure_ (i := 10) (N := some 43) (v := ?_) (a' := ?_) #[Y,Y,Y,Y,Y,Y,Y,Y,Y,Y,Y,U,U,U,U,U,U,U,U,U,U,U,U,U,U,U,U,U,U,U,U] rfl rfl (Zn HT_.out (by kernel_rfl)) (fun _ _ _ h => h) (Or.inl ⟨by rfl,?_⟩) ?_ ?_;rotate_left
                · intro w'
                  go_simp;with_reducible rfl
                rotate_left
                · simp only [Act.put,YV,YW,YX,i64_w,i32_w]
                  rfl
                refine pure_ (i := 11) (N := some 44) (v := undef) (a' := ?_) #[Y,Y,Y,Y,Y,Y,Y,Y,Y,Y,Y,Y,U,U,U,U,U,U,U,U,U,U,U,U,U,U,U,U,U,U,U] rfl rfl (Zn HT_.out (by kernel_rfl)) (fun _ _ _ h => h) (Or.inr ⟨by rfl,rfl⟩) ?_ ?_;rotate_left
                · simp only [Act.put,YV,YW,YX,i64_w,i32_w]
                  rfl
                refine pure_ (i := 12) (N := some 45) (v := undef) (a' := ?_) #[Y,Y,Y,Y,Y,Y,Y,Y,Y,Y,Y,Y,Y,U,U,U,U,U,U,U,U,U,U,U,U,U,U,U,U,U,U] rfl rfl (Zn HT_.out (by kernel_rfl)) (fun _ _ _ h => h) (Or.inr ⟨by rfl,rfl⟩) ?_ ?_;rotate_left
                · simp only [Act.put,YV,YW,YX,i64_w,i32_w]
                  rfl
                refine pure_ (i := 13) (N := some 46) (v := undef) (a' := ?_) #[Y,Y,Y,Y,Y,Y,Y,Y,Y,Y,Y,Y,Y,Y,U,U,U,U,U,U,U,U,U,U,U,U,U,U,U,U,U] rfl rfl (Zn HT_.out (by kernel_rfl)) (fun _ _ _ h => h) (Or.inr ⟨by rfl,rfl⟩) ?_ ?_;rotate_left
                · simp only [Act.put,YV,YW,YX,i64_w,i32_w]
                  rfl
                refine pure_ (i := 14) (N := some 47) (v := undef) (a' := ?_) #[Y,Y,Y,Y,Y,Y,Y,Y,Y,Y,Y,Y,Y,Y,Y,U,U,U,U,U,U,U,U,U,U,U,U,U,U,U,U] rfl rfl (Zn HT_.out (by kernel_rfl)) (fun _ _ _ h => h) (Or.inr ⟨by rfl,rfl⟩) ?_ ?_;rotate_left
                · simp only [Act.put,YV,YW,YX,i64_w,i32_w]
                  rfl
                refine pure_ (i := 15) (N := some 48) (v := ?_) (a' := ?_) #[Y,Y,Y,Y,Y,Y,Y,Y,Y,Y,Y,Y,Y,Y,Y,Y,U,U,U,U,U,U,U,U,U,U,U,U,U,U,U] rfl rfl (Zn HT_.out (by kernel_rfl)) (fun _ _ _ h => h) (Or.inl ⟨by rfl,?_⟩) ?_ ?_;rotate_left
                · intro w'
                  go_simp;with_reducible rfl
                rotate_left
                · simp only [Act.put,YV,YW,YX,i64_w,i32_w]
                  rfl
                refine pure_ (i := 16) (N := some 49) (v := ?_) (a' := ?_) #[Y,Y,Y,Y,Y,Y,Y,Y,Y,Y,Y,Y,Y,Y,Y,Y,Y,U,U,U,U,U,U,U,U,U,U,U,U,U,U] rfl rfl (Zn HT_.out (by kernel_rfl)) (fun _ _ _ h => h) (Or.inl ⟨by rfl,?_⟩) ?_ ?_;rotate_left
                · intro w'
                  go_simp;with_reducible rfl
                rotate_left
                · simp only [Act.put,YV,YW,YX,i64_w,i32_w]
                  rfl
                refine pure_ (i := 17) (N := some 50) (v := undef) (a' := ?_) #[Y,Y,Y,Y,Y,Y,Y,Y,Y,Y,Y,Y,Y,Y,Y,Y,Y,Y,U,U,U,U,U,U,U,U,U,U,U,U,U] rfl rfl (Zn HT_.out (by kernel_rfl)) (fun _ _ _ h => h) (Or.inr ⟨by rfl,rfl⟩) ?_ ?_;rotate_left
                · simp only [Act.put,YV,YW,YX,i64_w,i32_w]
                  rfl
                refine pure_ (i := 18) (N := some 51) (v := undef) (a' := ?_) #[Y,Y,Y,Y,Y,Y,Y,Y,Y,Y,Y,Y,Y,Y,Y,Y,Y,Y,Y,U,U,U,U,U,U,U,U,U,U,U,U] rfl rfl (Zn HT_.out (by kernel_rfl)) (fun _ _ _ h => h) (Or.inr ⟨by rfl,rfl⟩) ?_ ?_;rotate_left
                · simp only [Act.put,YV,YW,YX,i64_w,i32_w]
                  rfl
                refine pure_ (i := 19) (N := some 52) (v := undef) (a' := ?_) #[Y,Y,Y,Y,Y,Y,Y,Y,Y,Y,Y,Y,Y,Y,Y,Y,Y,Y,Y,Y,U,U,U,U,U,U,U,U,U,U,U] rfl rfl (Zn HT_.out (by kernel_rfl)) (fun _ _ _ h => h) (Or.inr ⟨by rfl,rfl⟩) ?_ ?_;rotate_left
                · simp only [Act.put,YV,YW,YX,i64_w,i32_w]
                  rfl
                refine pure_ (i := 20) (N := some 53) (v := undef) (a' := ?_) #[Y,Y,Y,Y,Y,Y,Y,Y,Y,Y,Y,Y,Y,Y,Y,Y,Y,Y,Y,Y,Y,U,U,U,U,U,U,U,U,U,U] rfl rfl (Zn HT_.out (by kernel_rfl)) (fun _ _ _ h => h) (Or.inr ⟨by rfl,rfl⟩) ?_ ?_;rotate_left
                · simp only [Act.put,YV,YW,YX,i64_w,i32_w]
                  rfl
                refine pure_ (i := 21) (N := some 54) (v := undef) (a' := ?_) #[Y,Y,Y,Y,Y,Y,Y,Y,Y,Y,Y,Y,Y,Y,Y,Y,Y,Y,Y,Y,Y,Y,U,U,U,U,U,U,U,U,U] rfl rfl (Zn HT_.out (by kernel_rfl)) (fun _ _ _ h => h) (Or.inr ⟨by rfl,rfl⟩) ?_ ?_;rotate_left
                · simp only [Act.put,YV,YW,YX,i64_w,i32_w]
                  rfl
                refine pure_ (i := 22) (N := some 55) (v := undef) (a' := ?_) #[Y,Y,Y,Y,Y,Y,Y,Y,Y,Y,Y,Y,Y,Y,Y,Y,Y,Y,Y,Y,Y,Y,Y,U,U,U,U,U,U,U,U] rfl rfl (Zn HT_.out (by kernel_rfl)) (fun _ _ _ h => h) (Or.inr ⟨by rfl,rfl⟩) ?_ ?_;rotate_left
                · simp only [Act.put,YV,YW,YX,i64_w,i32_w]
                  rfl
                refine pure_ (i := 23) (N := some 56) (v := undef) (a' := ?_) #[Y,Y,Y,Y,Y,Y,Y,Y,Y,Y,Y,Y,Y,Y,Y,Y,Y,Y,Y,Y,Y,Y,Y,Y,U,U,U,U,U,U,U] rfl rfl (Zn HT_.out (by kernel_rfl)) (fun _ _ _ h => h) (Or.inr ⟨by rfl,rfl⟩) ?_ ?_;rotate_left
                · simp only [Act.put,YV,YW,YX,i64_w,i32_w]
                  rfl
                refine pure_ (i := 24) (N := some 57) (v := undef) (a' := ?_) #[Y,Y,Y,Y,Y,Y,Y,Y,Y,Y,Y,Y,Y,Y,Y,Y,Y,Y,Y,Y,Y,Y,Y,Y,Y,U,U,U,U,U,U] rfl rfl (Zn HT_.out (by kernel_rfl)) (fun _ _ _ h => h) (Or.inr ⟨by rfl,rfl⟩) ?_ ?_;rotate_left
                · simp only [Act.put,YV,YW,YX,i64_w,i32_w]
                  rfl
                refine pure_ (i := 25) (N := some 58) (v := undef) (a' := ?_) #[Y,Y,Y,Y,Y,Y,Y,Y,Y,Y,Y,Y,Y,Y,Y,Y,Y,Y,Y,Y,Y,Y,Y,Y,Y,Y,U,U,U,U,U] rfl rfl (Zn HT_.out (by kernel_rfl)) (fun _ _ _ h => h) (Or.inr ⟨by rfl,rfl⟩) ?_ ?_;rotate_left
                · simp only [Act.put,YV,YW,YX,i64_w,i32_w]
                  rfl
                refine pure_ (i := 26) (N := some 59) (v := undef) (a' := ?_) #[Y,Y,Y,Y,Y,Y,Y,Y,Y,Y,Y,Y,Y,Y,Y,Y,Y,Y,Y,Y,Y,Y,Y,Y,Y,Y,Y,U,U,U,U] rfl rfl (Zn HT_.out (by kernel_rfl)) (fun _ _ _ h => h) (Or.inr ⟨by rfl,rfl⟩) ?_ ?_;rotate_left
                · simp only [Act.put,YV,YW,YX,i64_w,i32_w]
                  rfl
                refine pure_ (i := 27) (N := some 60) (v := undef) (a' := ?_) #[Y,Y,Y,Y,Y,Y,Y,Y,Y,Y,Y,Y,Y,Y,Y,Y,Y,Y,Y,Y,Y,Y,Y,Y,Y,Y,Y,Y,U,U,U] rfl rfl (Zn HT_.out (by kernel_rfl)) (fun _ _ _ h => h) (Or.inr ⟨by rfl,rfl⟩) ?_ ?_;rotate_left
                · simp only [Act.put,YV,YW,YX,i64_w,i32_w]
                  rfl
                refine pure_ (i := 28) (N := some 61) (v := undef) (a' := ?_) #[Y,Y,Y,Y,Y,Y,Y,Y,Y,Y,Y,Y,Y,Y,Y,Y,Y,Y,Y,Y,Y,Y,Y,Y,Y,Y,Y,Y,Y,U,U] rfl rfl (Zn HT_.out (by kernel_rfl)) (fun _ _ _ h => h) (Or.inr ⟨by rfl,rfl⟩) ?_ ?_;rotate_left
                · simp only [Act.put,YV,YW,YX,i64_w,i32_w]
                  rfl
                refine pure_ (i := 29) (N := some 62) (v := undef) (a' := ?_) #[Y,Y,Y,Y,Y,Y,Y,Y,Y,Y,Y,Y,Y,Y,Y,Y,Y,Y,Y,Y,Y,Y,Y,Y,Y,Y,Y,Y,Y,Y,U] rfl rfl (Zn HT_.out (by kernel_rfl)) (fun _ _ _ h => h) (Or.inr ⟨by rfl,rfl⟩) ?_ ?_;rotate_left
                · simp only [Act.put,YV,YW,YX,i64_w,i32_w]
                  rfl
                refine pure_ (i := 30) (N := some 63) (v := ?_) (a' := ?_) #[Y,Y,Y,Y,Y,Y,Y,Y,Y,Y,Y,Y,Y,Y,Y,Y,Y,Y,Y,Y,Y,Y,Y,Y,Y,Y,Y,Y,Y,Y,Y] rfl rfl (Zn HT_.out (by kernel_rfl)) (fun _ _ _ h => h) (Or.inl ⟨by rfl,?_⟩) ?_ ?_;rotate_left
                · intro w'
                  go_simp;with_reducible rfl
                rotate_left
                · simp only [Act.put,YV,YW,YX,i64_w,i32_w]
                  rfl
                refine done_ (XA HT_.out (by kernel_rfl)) ?_
                try go_wp2
                go_meet
                case rel => exact ⟨_,(true),(by first | rfl | (simp;done) | (simp [*];done)),H',⟨by have := HJ1.out;have := HK2.out;first | omega | exact Nat.le_refl _⟩,⟨by (with_reducible repeat (first | refine Zu ?_ _ | refine Zw ?_ | refine Zs ?_ _));exact BK112.out⟩,⟨by repeat (first | (with_reducible first | exact HB.out | apply Zc | apply Za | apply Zb | refine Z9 ?_ GE112.out) | exact HB.out)⟩⟩
             case rest =>
              clear HC14
              (try clear c1); (try clear c2); (try clear p2); (try clear c4); (try clear c18); (try clear c20)
              obtain ⟨kq,x63_13,rfl,HA,HJ13,BK112,HB⟩ := hcut
              cases kq with
              | zero => exact absurd HA.out (by simp [Zy.j2])
              | succ kj13 =>
               have H := HA.out;clear HA;simp only [Zy.j2] at H
               by_cases c37 : x63_13 = true
               · subst c37
                 have H1 : (some false) = some r := by rw [if_pos rfl] at H;exact H
                 clear H;have H := H1;clear H1;obtain rfl := Option.some.inj H
                 go_wp2
                 go_ret;exact ⟨by first | rfl | (simp [Zt,Zv] <;> rfl) | (simp [*,Zt,Zv] <;> rfl),by repeat (first | (with_reducible first | exact HB.out | apply Zc | apply Za | apply Zb | refine Z9 ?_ GE112.out) | exact HB.out)⟩
               · replace c37 := Bool.eq_false_iff.mpr c37
                 subst c37
                 have H1 : (if ((Zf l0 x28_2).f2) = 1 then (if 0 ≤ (wrap64 (x28_2 + 1)) then (if (wrap64 (x28_2 + 1)) < (l0.length : Int) then (if (wrap64 (((Zf l0 (wrap64 (x28_2 + 1))).f0) - ((Zf l0 x28_2).f0))) > 10000 then (some false) else (Zy.l0 kj13 l0 l0 (l0.length : Int) (wrap64 (x28_2 + 1)))) else (none)) else (none)) else (Zy.l0 kj13 l0 l0 (l0.length : Int) (wrap64 (x28_2 + 1)))) = some r := by rw [if_neg (show ¬ (false = true) by decide)] at H;exact H
                 clear H;have H := H1;clear H1
                 by_cases c38 : ((Zf l0 x28_2).f2) = 1
                 · rw [if_pos c38] at H
                   have c38b0 : (((Zf l0 x28_2).f2) == 1) = true := beq_iff_eq.mpr c38;have c38b1 : (((Zf l0 x28_2).f2) != 1) = false := bne_eq_false_iff_eq.mpr c38;clear c38
                   obtain ⟨ji39,hji39⟩ : ∃ j_ : Int,(wrap64 (x28_2 + 1)) = j_ := ⟨_,rfl⟩
                   replace H : (if 0 ≤ (ji39) then (if (ji39) < (l0.length : Int) then (if (wrap64 (((Zf l0 (ji39)).f0) - ((Zf l0 x28_2).f0))) > 10000 then (some false) else (Zy.l0 kj13 l0 l0 (l0.length : Int) ji39)) else (none)) else (none)) = some r := by first | (rw [hji39] at H;exact H) | (simp only [hji39] at H ⊢;exact H)
                   have hji39w : (IntKind.i64.wrap (x28_2 + 1)) = ji39 := (i64_w _).trans hji39
                   by_cases c40 : 0 ≤ (ji39)
                   · rw [if_pos c40] at H
                     have c40b0 : decide (0 ≤ (ji39)) = true := decide_eq_true c40;clear c40
                     by_cases c41 : (ji39) < (l0.length : Int)
                     · rw [if_pos c41] at H
                       have c41b0 : decide ((ji39) < (l0.length : Int)) = true := decide_eq_true c41;clear c41
                       by_cases c42 : (wrap64 (((Zf l0 (ji39)).f0) - ((Zf l0 x28_2).f0))) > 10000
                       · rw [if_pos c42] at H
                         have c42b0 : decide (10000 < (wrap64 (((Zf l0 (ji39)).f0) - ((Zf l0 x28_2).f0)))) = true := decide_eq_true c42;clear c42;obtain rfl := Option.some.inj H
                         try go_wp2
                         have n0_ := Zd.mk (Zw BK112.out);have n1_ := Zd.mk (Zb HB.out);clear BK112;clear HB;have BK112 := n0_;have HB := n1_;clear n0_ n1_;have p117 : 0 ≤ ((ji39) : Int) := of_decide_eq_true (by first | (with_reducible assumption) | assumption);have q117 : (ji39) < (l0.length : Int) := of_decide_eq_true (by first | (with_reducible assumption) | assumption);obtain ⟨ad117,e117,hx117_0,hx117_1,hx117_2⟩ := Xo HR0.out (ji39) p117 q117;have hw117_2 := hx117_2;have hw117_1 := hx117_1;have hw117_0 := hx117_0
                         obtain rfl : ad111 = ad117 := (by injection e117)
                         replace hx117_0 := (HB.out.cell (World.block_lt_of_cell? w _ hx117_0)).trans hx117_0;replace hx117_1 := (HB.out.cell (World.block_lt_of_cell? w _ hx117_1)).trans hx117_1;replace hx117_2 := (HB.out.cell (World.block_lt_of_cell? w _ hx117_2)).trans hx117_2;replace p117 := eq_true p117;replace q117 := eq_true q117;refine XE (n := 15) (S := fun w' => w'.cell? ⟨gb112,0,none⟩ = some (.int .i64 ((Zf l0 x28_2).f0)) ∧ w'.cell? ⟨gb112,1,none⟩ = some (.int .i64 ((Zf l0 x28_2).f1)) ∧ w'.cell? ⟨gb112,2,none⟩ = some (.int .i64 ((Zf l0 x28_2).f2)) ∧ w'.cell? (ad111.add (((ji39)).toNat * 3)) = some (.int .i64 ((Zf l0 (ji39)).f0)) ∧ w'.cell? ⟨(ad111.add (((ji39)).toNat * 3)).block,(ad111.add (((ji39)).toNat * 3)).off + 1,none⟩ = some (.int .i64 ((Zf l0 (ji39)).f1)) ∧ w'.cell? ⟨(ad111.add (((ji39)).toNat * 3)).block,(ad111.add (((ji39)).toNat * 3)).off + 2,none⟩ = some (.int .i64 ((Zf l0 (ji39)).f2))) (ds := []) #[U,U,U,U,U,U,U,U,U,U,U,U,U,U,U] (by kernel_rfl) rfl rfl ⟨(Zm BK112.out 0).trans rfl,(Zm BK112.out 1).trans rfl,(Zm BK112.out 2).trans rfl,((HB.out.cell (World.block_lt_of_cell? w _ hw117_0)).trans hw117_0),((HB.out.cell (World.block_lt_of_cell? w _ hw117_1)).trans hw117_1),((HB.out.cell (World.block_lt_of_cell? w _ hw117_2)).trans hw117_2)⟩ (fun hHeld => ?_);refine X2 Zy.tab8 Zy.bits8 (fun HT_ HW_ => ?_);generalize wc.drew = w43 at BK112 HB hx117_0 hx117_1 hx117_2 hHeld ⊢;refine pure_ (i := 0) (N := some 64) (v := ?_) (a' := ?_) #[Y,U,U,U,U,U,U,U,U,U,U,U,U,U,U] rfl rfl (Zn HT_.out (by kernel_rfl)) (fun _ _ _ h => h) (Or.inl ⟨by rfl,?_⟩) ?_ ?_;rotate_left
                         · intro w'
                           go_simp;with_reducible rfl
                         rotate_left
                         · simp only [Act.put,YV,YW,YX,i64_w,i32_w]
                           rfl
                         refine take_ (i := 1) (N := some 65) (v := ?_) (a' := ?_) #[Y,Y,U,U,U,U,U,U,U,U,U,U,U,U,U] rfl rfl (Xh HT_.out HW_.out (by kernel_rfl)) (fun _ _ _ h => h) (Or.inl ⟨by rfl,?_⟩) hHeld ?_ ?_;rotate_left
                         · rintro w' ⟨s0,s1,s2,s3,s4,s5⟩
                           go_simp;with_reducible rfl
                         rotate_left
                         · simp only [Act.put,YV,YW,YX,i64_w,i32_w]
                           rfl
                         refine pure_ (i := 2) (N := some 66) (v := ?_) (a' := ?_) #[Y,Y,Y,U,U,U,U,U,U,U,U,U,U,U,U] rfl rfl (Zn HT_.out (by kernel_rfl)) (fun _ _ _ h => h) (Or.inl ⟨by rfl,?_⟩) ?_ ?_;rotate_left
                         · intro w'
                           go_simp;with_reducible rfl
                         rotate_left
                         · simp only [Act.put,YV,YW,YX,i64_w,i32_w]
                           rfl
                         refine pure_ (i := 3) (N := some 67) (v := ?_) (a' := ?_) #[Y,Y,Y,Y,U,U,U,U,U,U,U,U,U,U,U] rfl rfl (Zn HT_.out (by kernel_rfl)) (fun _ _ _ h => h) (Or.inl ⟨by rfl,?_⟩) ?_ ?_;rotate_left
                         · intro w'
                           go_simp;with_reducible rfl
                         rotate_left
                         · simp only [Act.put,YV,YW,YX,i64_w,i32_w]
                           rfl
                         refine pure_ (i := 4) (N := some 68) (v := ?_) (a' := ?_) #[Y,Y,Y,Y,Y,U,U,U,U,U,U,U,U,U,U] rfl rfl (Zn HT_.out (by kernel_rfl)) (fun _ _ _ h => h) (Or.inl ⟨by rfl,?_⟩) ?_ ?_;rotate_left
                         · intro w'
                           go_simp;with_reducible rfl
                         rotate_left
                         · simp only [Act.put,YV,YW,YX,i64_w,i32_w]
                           rfl
                         refine pure_ (i := 5) (N := some 69) (v := ?_) (a' := ?_) #[Y,Y,Y,Y,Y,Y,U,U,U,U,U,U,U,U,U] rfl rfl (Zn HT_.out (by kernel_rfl)) (fun _ _ _ h => h) (Or.inl ⟨by rfl,?_⟩) ?_ ?_;rotate_left
                         · intro w'
                           go_simp;with_reducible rfl
                         rotate_left
                         · simp only [Act.put,YV,YW,YX,i64_w,i32_w]
                           rfl
                         refine pure_ (i := 6) (N := some 70) (v := ?_) (a' := ?_) #[Y,Y,Y,Y,Y,Y,Y,U,U,U,U,U,U,U,U] rfl rfl (Zn HT_.out (by kernel_rfl)) (fun _ _ _ h => h) (Or.inl ⟨by rfl,?_⟩) ?_ ?_;rotate_left
                         · intro w'
                           go_simp;with_reducible rfl
                         rotate_left
                         · simp only [Act.put,YV,YW,YX,i64_w,i32_w]
                           rfl
                         refine pure_ (i := 7) (N := some 71) (v := ?_) (a' := ?_) #[Y,Y,Y,Y,Y,Y,Y,Y,U,U,U,U,U,U,U] rfl rfl (Zn HT_.out (by kernel_rfl)) (fun _ _ _ h => h) (Or.inl ⟨by rfl,?_⟩) ?_ ?_;rotate_left
                         · intro w'
                           go_simp;with_reducible rfl
                         rotate_left
                         · simp only [Act.put,YV,YW,YX,i64_w,i32_w]
                           rfl
                         refine pure_ (i := 8) (N := some 72) (v := ?_) (a' := ?_) #[Y,Y,Y,Y,Y,Y,Y,Y,Y,U,U,U,U,U,U] rfl rfl (Zn HT_.out (by kernel_rfl)) (fun _ _ _ h => h) (Or.inl ⟨by rfl,?_⟩) ?_ ?_;rotate_left
                         · intro w'
                           go_simp;with_reducible rfl
                         rotate_left
                         · simp only [Act.put,YV,YW,YX,i64_w,i32_w]
                           rfl
                         refine pure_ (i := 10) (N := some 74) (v := ?_) (a' := ?_) #[Y,Y,Y,Y,Y,Y,Y,Y,Y,U,Y,U,U,U,U] rfl rfl (Zn HT_.out (by kernel_rfl)) (fun _ _ _ h => h) (Or.inl ⟨by rfl,?_⟩) ?_ ?_;rotate_left
                         · intro w'
                           go_simp;with_reducible rfl
                         rotate_left
                         · simp only [Act.put,YV,YW,YX,i64_w,i32_w]
                           rfl
                         refine take_ (i := 9) (N := some 73) (v := ?_) (a' := ?_) #[Y,Y,Y,Y,Y,Y,Y,Y,Y,Y,Y,U,U,U,U] rfl rfl (Xh HT_.out HW_.out (by kernel_rfl)) (fun _ _ _ h => h) (Or.inl ⟨by rfl,?_⟩) hHeld ?_ ?_;rotate_left
                         · rintro w' ⟨s0,s1,s2,s3,s4,s5⟩
                           go_simp;with_reducible rfl
                         rotate_left
                         · simp only [Act.put,YV,YW,YX,i64_w,i32_w]
                           rfl
                         refine take_ (i := 11) (N := some 75) (v := ?_) (a' := ?_) #[Y,Y,Y,Y,Y,Y,Y,Y,Y,Y,Y,Y,U,U,U] rfl rfl (Xh HT_.out HW_.out (by kernel_rfl)) (fun _ _ _ h => h) (Or.inl ⟨by rfl,?_⟩) hHeld ?_ ?_;rotate_left
                         · rintro w' ⟨s0,s1,s2,s3,s4,s5⟩
                           go_simp;with_reducible rfl
                         rotate_left
                         · simp only [Act.put,YV,YW,YX,i64_w,i32_w]
                           rfl
                         refine pure_ (i := 12) (N := some 76) (v := ?_) (a' := ?_) #[Y,Y,Y,Y,Y,Y,Y,Y,Y,Y,Y,Y,Y,U,U] rfl rfl (Zn HT_.out (by kernel_rfl)) (fun _ _ _ h => h) (Or.inl ⟨by rfl,?_⟩) ?_ ?_;rotate_left
                         · intro w'
                           go_simp;with_reducible rfl
                         rotate_left
                         · simp only [Act.put,YV,YW,YX,i64_w,i32_w]
                           rfl
                         refine pure_ (i := 13) (N := some 77) (v := ?_) (a' := ?_) #[Y,Y,Y,Y,Y,Y,Y,Y,Y,Y,Y,Y,Y,Y,U] rfl rfl (Zn HT_.out (by kernel_rfl)) (fun _ _ _ h => h) (Or.inl ⟨by rfl,?_⟩) ?_ ?_;rotate_left
                         · intro w'
                           go_simp;with_reducible rfl
                         rotate_left
                         · simp only [Act.put,YV,YW,YX,i64_w,i32_w]
                           rfl
                         refine pure_ (i := 14) (N := some 78) (v := ?_) (a' := ?_) #[Y,Y,Y,Y,Y,Y,Y,Y,Y,Y,Y,Y,Y,Y,Y] rfl rfl (Zn HT_.out (by kernel_rfl)) (fun _ _ _ h => h) (Or.inl ⟨by rfl,?_⟩) ?_ ?_;rotate_left
                         · intro w'
                           go_simp;with_reducible rfl
                         rotate_left
                         · simp only [Act.put,YV,YW,YX,i64_w,i32_w]
                           rfl
                         refine done_ (XA HT_.out (by kernel_rfl)) ?_
                         try go_wp2
                         go_ret;exact ⟨by first | rfl | (simp [Zt,Zv] <;> rfl) | (simp only [← hji39];first | rfl | (simp [Zt,Zv] <;> rfl)) | (simp [*,Zt,Zv] <;> rfl),by repeat (first | (with_reducible first | exact HB.out | apply Zc | apply Za | apply Zb | refine Z9 ?_ GE112.out) | exact HB.out)⟩
                       · rw [if_neg c42] at H
                         have c42b0 : decide (10000 < (wrap64 (((Zf l0 (ji39)).f0) - ((Zf l0 x28_2).f0)))) = false := decide_eq_false c42;clear c42;have H' := Zd.mk H;clear H
                         try go_wp2
                         have n0_ := Zd.mk (Zw BK112.out);have n1_ := Zd.mk (Zb HB.out);clear BK112;clear HB;have BK112 := n0_;have HB := n1_;clear n0_ n1_;have p117 : 0 ≤ ((ji39) : Int) := of_decide_eq_true (by first | (with_reducible assumption) | assumption);have q117 : (ji39) < (l0.length : Int) := of_decide_eq_true (by first | (with_reducible assumption) | assumption);obtain ⟨ad117,e117,hx117_0,hx117_1,hx117_2⟩ := Xo HR0.out (ji39) p117 q117;have hw117_2 := hx117_2;have hw117_1 := hx117_1;have hw117_0 := hx117_0
                         obtain rfl : ad111 = ad117 := (by injection e117)
                         replace hx117_0 := (HB.out.cell (World.block_lt_of_cell? w _ hx117_0)).trans hx117_0;replace hx117_1 := (HB.out.cell (World.block_lt_of_cell? w _ hx117_1)).trans hx117_1;replace hx117_2 := (HB.out.cell (World.block_lt_of_cell? w _ hx117_2)).trans hx117_2;replace p117 := eq_true p117;replace q117 := eq_true q117;refine XE (n := 15) (S := fun w' => w'.cell? ⟨gb112,0,none⟩ = some (.int .i64 ((Zf l0 x28_2).f0)) ∧ w'.cell? ⟨gb112,1,none⟩ = some (.int .i64 ((Zf l0 x28_2).f1)) ∧ w'.cell? ⟨gb112,2,none⟩ = some (.int .i64 ((Zf l0 x28_2).f2)) ∧ w'.cell? (ad111.add (((ji39)).toNat * 3)) = some (.int .i64 ((Zf l0 (ji39)).f0)) ∧ w'.cell? ⟨(ad111.add (((ji39)).toNat * 3)).block,(ad111.add (((ji39)).toNat * 3)).off + 1,none⟩ = some (.int .i64 ((Zf l0 (ji39)).f1)) ∧ w'.cell? ⟨(ad111.add (((ji39)).toNat * 3)).block,(ad111.add (((ji39)).toNat * 3)).off + 2,none⟩ = some (.int .i64 ((Zf l0 (ji39)).f2))) (ds := []) #[U,U,U,U,U,U,U,U,U,U,U,U,U,U,U] (by kernel_rfl) rfl rfl ⟨(Zm BK112.out 0).trans rfl,(Zm BK112.out 1).trans rfl,(Zm BK112.out 2).trans rfl,((HB.out.cell (World.block_lt_of_cell? w _ hw117_0)).trans hw117_0),((HB.out.cell (World.block_lt_of_cell? w _ hw117_1)).trans hw117_1),((HB.out.cell (World.block_lt_of_cell? w _ hw117_2)).trans hw117_2)⟩ (fun hHeld => ?_);refine X2 Zy.tab8 Zy.bits8 (fun HT_ HW_ => ?_);generalize wc.drew = w44 at BK112 HB hx117_0 hx117_1 hx117_2 hHeld ⊢;refine pure_ (i := 0) (N := some 64) (v := ?_) (a' := ?_) #[Y,U,U,U,U,U,U,U,U,U,U,U,U,U,U] rfl rfl (Zn HT_.out (by kernel_rfl)) (fun _ _ _ h => h) (Or.inl ⟨by rfl,?_⟩) ?_ ?_;rotate_left
                         · intro w'
                           go_simp;with_reducible rfl
                         rotate_left
                         · simp only [Act.put,YV,YW,YX,i64_w,i32_w]
                           rfl
                         refine take_ (i := 1) (N := some 65) (v := ?_) (a' := ?_) #[Y,Y,U,U,U,U,U,U,U,U,U,U,U,U,U] rfl rfl (Xh HT_.out HW_.out (by kernel_rfl)) (fun _ _ _ h => h) (Or.inl ⟨by rfl,?_⟩) hHeld ?_ ?_;rotate_left
                         · rintro w' ⟨s0,s1,s2,s3,s4,s5⟩
                           go_simp;with_reducible rfl
                         rotate_left
                         · simp only [Act.put,YV,YW,YX,i64_w,i32_w]
                           rfl
                         refine pure_ (i := 2) (N := some 66) (v := ?_) (a' := ?_) #[Y,Y,Y,U,U,U,U,U,U,U,U,U,U,U,U] rfl rfl (Zn HT_.out (by kernel_rfl)) (fun _ _ _ h => h) (Or.inl ⟨by rfl,?_⟩) ?_ ?_;rotate_left
                         · intro w'
                           go_simp;with_reducible rfl
                         rotate_left
                         · simp only [Act.put,YV,YW,YX,i64_w,i32_w]
                           rfl
                         refine pure_ (i := 3) (N := some 67) (v := ?_) (a' := ?_) #[Y,Y,Y,Y,U,U,U,U,U,U,U,U,U,U,U] rfl rfl (Zn HT_.out (by kernel_rfl)) (fun _ _ _ h => h) (Or.inl ⟨by rfl,?_⟩) ?_ ?_;rotate_left
                         · intro w'
                           go_simp;with_reducible rfl
                         rotate_left
                         · simp only [Act.put,YV,YW,YX,i64_w,i32_w]
                           rfl
                         refine pure_ (i := 4) (N := some 68) (v := ?_) (a' := ?_) #[Y,Y,Y,Y,Y,U,U,U,U,U,U,U,U,U,U] rfl rfl (Zn HT_.out (by kernel_rfl)) (fun _ _ _ h => h) (Or.inl ⟨by rfl,?_⟩) ?_ ?_;rotate_left
                         · intro w'
                           go_simp;with_reducible rfl
                         rotate_left
                         · simp only [Act.put,YV,YW,YX,i64_w,i32_w]
                           rfl
                         refine pure_ (i := 5) (N := some 69) (v := ?_) (a' := ?_) #[Y,Y,Y,Y,Y,Y,U,U,U,U,U,U,U,U,U] rfl rfl (Zn HT_.out (by kernel_rfl)) (fun _ _ _ h => h) (Or.inl ⟨by rfl,?_⟩) ?_ ?_;rotate_left
                         · intro w'
                           go_simp;with_reducible rfl
                         rotate_left
                         · simp only [Act.put,YV,YW,YX,i64_w,i32_w]
                           rfl
                         refine pure_ (i := 6) (N := some 70) (v := ?_) (a' := ?_) #[Y,Y,Y,Y,Y,Y,Y,U,U,U,U,U,U,U,U] rfl rfl (Zn HT_.out (by kernel_rfl)) (fun _ _ _ h => h) (Or.inl ⟨by rfl,?_⟩) ?_ ?_;rotate_left
                         · intro w'
                           go_simp;with_reducible rfl
                         rotate_left
                         · simp only [Act.put,YV,YW,YX,i64_w,i32_w]
                           rfl
                         refine pure_ (i := 7) (N := some 71) (v := ?_) (a' := ?_) #[Y,Y,Y,Y,Y,Y,Y,Y,U,U,U,U,U,U,U] rfl rfl (Zn HT_.out (by kernel_rfl)) (fun _ _ _ h => h) (Or.inl ⟨by rfl,?_⟩) ?_ ?_;rotate_left
                         · intro w'
                           go_simp;with_reducible rfl
                         rotate_left
                         · simp only [Act.put,YV,YW,YX,i64_w,i32_w]
                           rfl
                         refine pure_ (i := 8) (N := some 72) (v := ?_) (a' := ?_) #[Y,Y,Y,Y,Y,Y,Y,Y,Y,U,U,U,U,U,U] rfl rfl (Zn HT_.out (by kernel_rfl)) (fun _ _ _ h => h) (Or.inl ⟨by rfl,?_⟩) ?_ ?_;rotate_left
                         · intro w'
                           go_simp;with_reducible rfl
                         rotate_left
                         · simp only [Act.put,YV,YW,YX,i64_w,i32_w]
                           rfl
                         refine pure_ (i := 10) (N := some 74) (v := ?_) (a' := ?_) #[Y,Y,Y,Y,Y,Y,Y,Y,Y,U,Y,U,U,U,U] rfl rfl (Zn HT_.out (by kernel_rfl)) (fun _ _ _ h => h) (Or.inl ⟨by rfl,?_⟩) ?_ ?_;rotate_left
                         · intro w'
                           go_simp;with_reducible rfl
                         rotate_left
                         · simp only [Act.put,YV,YW,YX,i64_w,i32_w]
                           rfl
                         refine take_ (i := 9) (N := some 73) (v := ?_) (a' := ?_) #[Y,Y,Y,Y,Y,Y,Y,Y,Y,Y,Y,U,U,U,U] rfl rfl (Xh HT_.out HW_.out (by kernel_rfl)) (fun _ _ _ h => h) (Or.inl ⟨by rfl,?_⟩) hHeld ?_ ?_;rotate_left
                         · rintro w' ⟨s0,s1,s2,s3,s4,s5⟩
                           go_simp;with_reducible rfl
                         rotate_left
                         · simp only [Act.put,YV,YW,YX,i64_w,i32_w]
                           rfl
                         refine take_ (i := 11) (N := some 75) (v := ?_) (a' := ?_) #[Y,Y,Y,Y,Y,Y,Y,Y,Y,Y,Y,Y,U,U,U] rfl rfl (Xh HT_.out HW_.out (by kernel_rfl)) (fun _ _ _ h => h) (Or.inl ⟨by rfl,?_⟩) hHeld ?_ ?_;rotate_left
                         · rintro w' ⟨s0,s1,s2,s3,s4,s5⟩
                           go_simp;with_reducible rfl
                         rotate_left
                         · simp only [Act.put,YV,YW,YX,i64_w,i32_w]
                           rfl
                         refine pure_ (i := 12) (N := some 76) (v := ?_) (a' := ?_) #[Y,Y,Y,Y,Y,Y,Y,Y,Y,Y,Y,Y,Y,U,U] rfl rfl (Zn HT_.out (by kernel_rfl)) (fun _ _ _ h => h) (Or.inl ⟨by rfl,?_⟩) ?_ ?_;rotate_left
                         · intro w'
                           go_simp;with_reducible rfl
                         rotate_left
                         · simp only [Act.put,YV,YW,YX,i64_w,i32_w]
                           rfl
                         refine pure_ (i := 13) (N := some 77) (v := ?_) (a' := ?_) #[Y,Y,Y,Y,Y,Y,Y,Y,Y,Y,Y,Y,Y,Y,U] rfl rfl (Zn HT_.out (by kernel_rfl)) (fun _ _ _ h => h) (Or.inl ⟨by rfl,?_⟩) ?_ ?_;rotate_left
                         · intro w'
                           go_simp;with_reducible rfl
                         rotate_left
                         · simp only [Act.put,YV,YW,YX,i64_w,i32_w]
                           rfl
                         refine pure_ (i := 14) (N := some 78) (v := ?_) (a' := ?_) #[Y,Y,Y,Y,Y,Y,Y,Y,Y,Y,Y,Y,Y,Y,Y] rfl rfl (Zn HT_.out (by kernel_rfl)) (fun _ _ _ h => h) (Or.inl ⟨by rfl,?_⟩) ?_ ?_;rotate_left
                         · intro w'
                           go_simp;with_reducible rfl
                         rotate_left
                         · simp only [Act.put,YV,YW,YX,i64_w,i32_w]
                           rfl
                         refine done_ (XA HT_.out (by kernel_rfl)) ?_
                         try go_wp2
                         go_roundg kj13
                         case measure => have := HJ1.out;have := HK2.out;have := HJ13.out;omega
                         case rel => exact ⟨(ji39),(by first | rfl | (simp;done) | (simp only [← hji39] <;> (first | rfl | simp)) | (simp [*];done)),H',⟨by have := HJ1.out;have := HK2.out;have := HJ13.out;omega⟩,⟨by repeat (first | (with_reducible first | exact HB.out | apply Zc | apply Za | apply Zb | refine Z9 ?_ GE112.out) | exact HB.out)⟩⟩
                     · rw [if_neg c41] at H
                       exact absurd H (by simp)
                   · rw [if_neg c40] at H
                     exact absurd H (by simp)
                 · rw [if_neg c38] at H
                   have c38b0 : (((Zf l0 x28_2).f2) == 1) = false := beq_eq_false_iff_ne.mpr c38;have c38b1 : (((Zf l0 x28_2).f2) != 1) = true := bne_iff_ne.mpr c38;have H' := Zd.mk H;clear H
                   try go_wp2
                   have n0_ := Zd.mk (Zw BK112.out);have n1_ := Zd.mk (Zb HB.out);clear BK112;clear HB;have BK112 := n0_;have HB := n1_;clear n0_ n1_;refine XE (n := 15) (S := fun w' => w'.cell? ⟨gb112,0,none⟩ = some (.int .i64 ((Zf l0 x28_2).f0)) ∧ w'.cell? ⟨gb112,1,none⟩ = some (.int .i64 ((Zf l0 x28_2).f1)) ∧ w'.cell? ⟨gb112,2,none⟩ = some (.int .i64 ((Zf l0 x28_2).f2))) (ds := []) #[U,U,U,U,U,U,U,U,U,U,U,U,U,U,U] (by kernel_rfl) rfl rfl ⟨(Zm BK112.out 0).trans rfl,(Zm BK112.out 1).trans rfl,(Zm BK112.out 2).trans rfl⟩ (fun hHeld => ?_);refine X2 Zy.tab8 Zy.bits8 (fun HT_ HW_ => ?_);generalize wc.drew = w45 at BK112 HB hHeld ⊢;refine pure_ (i := 0) (N := some 64) (v := ?_) (a' := ?_) #[Y,U,U,U,U,U,U,U,U,U,U,U,U,U,U] rfl rfl (Zn HT_.out (by kernel_rfl)) (fun _ _ _ h => h) (Or.inl ⟨by rfl,?_⟩) ?_ ?_;rotate_left
                   · intro w'
                     go_simp;with_reducible rfl
                   rotate_left
                   · simp only [Act.put,YV,YW,YX,i64_w,i32_w]
                     rfl
                   refine take_ (i := 1) (N := some 65) (v := ?_) (a' := ?_) #[Y,Y,U,U,U,U,U,U,U,U,U,U,U,U,U] rfl rfl (Xh HT_.out HW_.out (by kernel_rfl)) (fun _ _ _ h => h) (Or.inl ⟨by rfl,?_⟩) hHeld ?_ ?_;rotate_left
                   · rintro w' ⟨s0,s1,s2⟩
                     go_simp;with_reducible rfl
                   rotate_left
                   · simp only [Act.put,YV,YW,YX,i64_w,i32_w]
                     rfl
                   refine pure_ (i := 2) (N := some 66) (v := ?_) (a' := ?_) #[Y,Y,Y,U,U,U,U,U,U,U,U,U,U,U,U] rfl rfl (Zn HT_.out (by kernel_rfl)) (fun _ _ _ h => h) (Or.inl ⟨by rfl,?_⟩) ?_ ?_;rotate_left
                   · intro w'
                     go_simp;with_reducible rfl
                   rotate_left
                   · simp only [Act.put,YV,YW,YX,i64_w,i32_w]
                     rfl
                   refine pure_ (i := 3) (N := some 67) (v := ?_) (a' := ?_) #[Y,Y,Y,Y,U,U,U,U,U,U,U,U,U,U,U] rfl rfl (Zn HT_.out (by kernel_rfl)) (fun _ _ _ h => h) (Or.inl ⟨by rfl,?_⟩) ?_ ?_;rotate_left
                   · intro w'
                     go_simp;with_reducible rfl
                   rotate_left
                   · simp only [Act.put,YV,YW,YX,i64_w,i32_w]
                     rfl
                   refine pure_ (i := 4) (N := some 68) (v := undef) (a' := ?_) #[Y,Y,Y,Y,Y,U,U,U,U,U,U,U,U,U,U] rfl rfl (Zn HT_.out (by kernel_rfl)) (fun _ _ _ h => h) (Or.inr ⟨by rfl,rfl⟩) ?_ ?_;rotate_left
                   · simp only [Act.put,YV,YW,YX,i64_w,i32_w]
                     rfl
                   refine pure_ (i := 5) (N := some 69) (v := undef) (a' := ?_) #[Y,Y,Y,Y,Y,Y,U,U,U,U,U,U,U,U,U] rfl rfl (Zn HT_.out (by kernel_rfl)) (fun _ _ _ h => h) (Or.inr ⟨by rfl,rfl⟩) ?_ ?_;rotate_left
                   · simp only [Act.put,YV,YW,YX,i64_w,i32_w]
                     rfl
                   refine pure_ (i := 6) (N := some 70) (v := undef) (a' := ?_) #[Y,Y,Y,Y,Y,Y,Y,U,U,U,U,U,U,U,U] rfl rfl (Zn HT_.out (by kernel_rfl)) (fun _ _ _ h => h) (Or.inr ⟨by rfl,rfl⟩) ?_ ?_;rotate_left
                   · simp only [Act.put,YV,YW,YX,i64_w,i32_w]
                     rfl
                   refine pure_ (i := 7) (N := some 71) (v := undef) (a' := ?_) #[Y,Y,Y,Y,Y,Y,Y,Y,U,U,U,U,U,U,U] rfl rfl (Zn HT_.out (by kernel_rfl)) (fun _ _ _ h => h) (Or.inr ⟨by rfl,rfl⟩) ?_ ?_;rotate_left
                   · simp only [Act.put,YV,YW,YX,i64_w,i32_w]
                     rfl
                   refine pure_ (i := 8) (N := some 72) (v := undef) (a' := ?_) #[Y,Y,Y,Y,Y,Y,Y,Y,Y,U,U,U,U,U,U] rfl rfl (Zn HT_.out (by kernel_rfl)) (fun _ _ _ h => h) (Or.inr ⟨by rfl,rfl⟩) ?_ ?_;rotate_left
                   · simp only [Act.put,YV,YW,YX,i64_w,i32_w]
                     rfl
                   refine pure_ (i := 9) (N := some 73) (v := undef) (a' := ?_) #[Y,Y,Y,Y,Y,Y,Y,Y,Y,Y,U,U,U,U,U] rfl rfl (Zn HT_.out (by kernel_rfl)) (fun _ _ _ h => h) (Or.inr ⟨by rfl,rfl⟩) ?_ ?_;rotate_left
                   · simp only [Act.put,YV,YW,YX,i64_w,i32_w]
                     rfl
                   refine pure_ (i := 10) (N := some 74) (v := undef) (a' := ?_) #[Y,Y,Y,Y,Y,Y,Y,Y,Y,Y,Y,U,U,U,U] rfl rfl (Zn HT_.out (by kernel_rfl)) (fun _ _ _ h => h) (Or.inr ⟨by rfl,rfl⟩) ?_ ?_;rotate_left
                   · simp only [Act.put,YV,YW,YX,i64_w,i32_w]
                     rfl
                   refine pure_ (i := 11) (N := some 75) (v := undef) (a' := ?_) #[Y,Y,Y,Y,Y,Y,Y,Y,Y,Y,Y,Y,U,U,U] rfl rfl (Zn HT_.out (by kernel_rfl)) (fun _ _ _ h => h) (Or.inr ⟨by rfl,rfl⟩) ?_ ?_;rotate_left
                   · simp only [Act.put,YV,YW,YX,i64_w,i32_w]
                     rfl
                   refine pure_ (i := 12) (N := some 76) (v := undef) (a' := ?_) #[Y,Y,Y,Y,Y,Y,Y,Y,Y,Y,Y,Y,Y,U,U] rfl rfl (Zn HT_.out (by kernel_rfl)) (fun _ _ _ h => h) (Or.inr ⟨by rfl,rfl⟩) ?_ ?_;rotate_left
                   · simp only [Act.put,YV,YW,YX,i64_w,i32_w]
                     rfl
                   refine pure_ (i := 13) (N := some 77) (v := undef) (a' := ?_) #[Y,Y,Y,Y,Y,Y,Y,Y,Y,Y,Y,Y,Y,Y,U] rfl rfl (Zn HT_.out (by kernel_rfl)) (fun _ _ _ h => h) (Or.inr ⟨by rfl,rfl⟩) ?_ ?_;rotate_left
                   · simp only [Act.put,YV,YW,YX,i64_w,i32_w]
                     rfl
                   refine pure_ (i := 14) (N := some 78) (v := ?_) (a' := ?_) #[Y,Y,Y,Y,Y,Y,Y,Y,Y,Y,Y,Y,Y,Y,Y] rfl rfl (Zn HT_.out (by kernel_rfl)) (fun _ _ _ h => h) (Or.inl ⟨by rfl,?_⟩) ?_ ?_;rotate_left
                   · intro w'
                     go_simp;with_reducible rfl
                   rotate_left
                   · simp only [Act.put,YV,YW,YX,i64_w,i32_w]
                     rfl
                   refine done_ (XA HT_.out (by kernel_rfl)) ?_
                   try go_wp2
                   go_roundg kj13
                   case measure => have := HJ1.out;have := HK2.out;have := HJ13.out;omega
                   case rel => exact ⟨(wrap64 (x28_2 + 1)),(by first | rfl | (simp;done) | (simp [*];done)),H',⟨by have := HJ1.out;have := HK2.out;have := HJ13.out;omega⟩,⟨by repeat (first | (with_reducible first | exact HB.out | apply Zc | apply Za | apply Zb | refine Z9 ?_ GE112.out) | exact HB.out)⟩⟩
           · rw [if_neg c13] at H
             exact absurd H (by simp)
         · rw [if_neg c12] at H
           exact absurd H (by simp)
       · rw [if_neg c11] at H
         have c11b0 : decide (x28_2 < (l0.length : Int)) = false := decide_eq_false c11;clear c11;obtain rfl := Option.some.inj H
         go_wp2
         go_ret;exact ⟨by first | rfl | (simp [Zt,Zv] <;> rfl) | (simp [*,Zt,Zv] <;> rfl),by repeat (first | (with_reducible first | exact HB.out | apply Zc | apply Za | apply Zb) | exact HB.out)⟩
end Go.Proofs.Ytomlfbmfdoallaa.PA

namespace Go.Proofs.Ytomlfbmfdoallaa.PA
open Go.RowKit Go.Proofs.YtomlfbmfdoallaaW.PrintWords Go.Proofs.YtomlfbmfdoallaaW.PrintLast Go.Proofs.YtomlfbmfdoallaaW.PrintMore
attribute [local go_sem] Xf Xe Xj Xk ZV ZU Xd Xc
set_option linter.unusedVariables false
set_option linter.unusedSimpArgs false
theorem Q3 {k : IntKind} {a b : Int} (h : a = b) : Ending.returned (.int k a) = .returned (.int k b) := by rw [h]
def PredB {α : Type} (g : Nat) (lb : Array Value) (enc : α → Value) (p : α → Bool) (w : World) : Prop :=
 ∀ (W : World) (x : α),Below w.heap.size w W → Calls Try.prog g (#[enc x] ++ lb) W fun e w' => e = .returned (.bool (p x)) ∧ Below W.heap.size W w'
def idxFrom {α : Type} (p : α → Bool) : Int → List α → Int
 | _,[] => -1
 | i,x :: xs => if p x then i else idxFrom p (i + 1) xs
def idxOf {α : Type} (p : α → Bool) (l : List α) : Int := idxFrom p 0 l
theorem Qd {α : Type} (p : α → Bool) (l : List α) (k : Nat) (x : α) (i : Int) (hx : l[k]? = some x) (h : p x = true) : idxFrom p i (l.drop k) = i := by
 obtain ⟨hlt,rfl⟩ := List.getElem?_eq_some_iff.1 hx;rw [List.drop_eq_getElem_cons hlt];simp [idxFrom,h]
theorem XX {α : Type} (p : α → Bool) (l : List α) (k : Nat) (x : α) (i : Int) (hx : l[k]? = some x) (h : p x = false) : idxFrom p i (l.drop k) = idxFrom p (i + 1) (l.drop (k + 1)) := by
 obtain ⟨hlt,rfl⟩ := List.getElem?_eq_some_iff.1 hx;rw [List.drop_eq_getElem_cons hlt];simp [idxFrom,h]
theorem QG (l : List Int) (k : Nat) (h : k < l.length) : l[k]? = some (rd l k) := by
 rw [List.getElem?_eq_getElem h];simp [rd,h]
set_option maxHeartbeats 2000000 in
theorem IndexFunc_int (p : Int → Bool) (g : Nat) (lb : Array Value) (eg : ∀ args w,(callFunc g args).run Try.prog w = .ok (.enter g args) w) (A : Option Addr) (c : Nat) (l : List Int) (w : World)
 (hp : PredB g lb (fun x => .int .i64 x) p w) (hr : Kd.C (Kd.int .i64) w A l.length l) :
 Calls Try.prog 78 #[.slice A l.length c,.func (.func g) #[] lb] w fun e w' => e = .returned (.int .i64 (idxOf p l)) ∧ Below w.heap.size w w' := by
 have HR := Zd.mk hr;have HP := Zd.mk hp;have hmax : l.length ≤ 9223372036854775807 := Kd.C_max hr;clear hr hp
 go_enter Try.func78,Try.ntmps78
 go_wp2
 go_loopg [5,8] l.length (fun gg _ s8 wr => ∃ kk : Nat,kk ≤ l.length ∧ l.length - kk ≤ gg ∧ s8 = .int .i64 kk ∧ Zd (Below w.heap.size w wr) ∧ Zd (idxOf p l = idxFrom p kk (l.drop kk)))
 case atStart => exact ⟨0,Nat.zero_le _,by omega,rfl,⟨Below.refl _ w⟩,⟨by simp [idxOf]⟩⟩
 case round =>
  obtain ⟨kk,hkk,hg,rfl,BW,AI⟩ := hrel
  by_cases hlt : kk < l.length
  · have hltz : (kk : Int) < (l.length : Int) := by omega
    obtain ⟨ad,eA,hx⟩ := Kd.QR (Kd.ZK HR.out BW.out) (kk : Int) (by omega) (by omega)
    cases eA
    simp only [Int.toNat_natCast] at hx;have hcall := HP.out wr (rd l kk) BW.out;generalize hy : rd l (kk : Int) = y at hx hcall;have B := Zd.mk hy;clear hy
    cases hq : p y with
    | true =>
     rw [hq] at hcall
     go_wp2_with (go_at_fn g;refine hcall.mono ?_;rintro e w' ⟨rfl,hb'⟩)
     go_ret;exact ⟨Q3 (by rw [AI.out,Qd p l kk y kk (by rw [QG _ _ hlt,B.out]) hq]),BW.out.trans (hb'.mono BW.out.size)⟩
    | false =>
     rw [hq] at hcall
     go_wp2_with (go_at_fn g;refine hcall.mono ?_;rintro e w' ⟨rfl,hb'⟩)
     go_roundg (l.length - (kk + 1))
     case measure => omega
     case rel => exact ⟨kk + 1,by omega,by omega,by go_num,⟨BW.out.trans (hb'.mono BW.out.size)⟩,⟨by rw [AI.out,XX p l kk y kk (by rw [QG _ _ hlt,B.out]) hq];simp⟩⟩
  · have hltz : ¬ (kk : Int) < (l.length : Int) := by omega
    go_wp2
    go_ret;exact ⟨Q3 (by rw [AI.out,List.drop_eq_nil_of_le (by omega)];rfl),BW.out⟩
end Go.Proofs.Ytomlfbmfdoallaa.PA

namespace Go.Proofs.Ytomlfbmfdoallaa.PA
open Go.RowKit Go.Proofs.YtomlfbmfdoallaaW.PrintWords Go.Proofs.YtomlfbmfdoallaaW.PrintLast Go.Proofs.YtomlfbmfdoallaaW.PrintMore
attribute [local go_sem] Xf Xe Xj Xk ZV ZU Xd Xc
set_option linter.unusedVariables false
set_option linter.unusedSimpArgs false
theorem XY {α : Type} (p : α → Bool) (l : List α) : ∀ i : Int,0 ≤ i → decide (idxFrom p i l ≥ 0) = l.any p := by
 induction l with
 | nil => intro i _;simp [idxFrom]
 | cons x xs ih =>
  intro i hi
  cases h : p x with
  | true => simp [idxFrom,h,hi]
  | false => simp only [idxFrom,h,List.any_cons,Bool.false_or];exact ih (i + 1) (by omega)
theorem ContainsFunc_int (p : Int → Bool) (g : Nat) (lb : Array Value) (eg : ∀ args w,(callFunc g args).run Try.prog w = .ok (.enter g args) w) (A : Option Addr) (c : Nat) (l : List Int) (w : World)
 (hp : PredB g lb (fun x => .int .i64 x) p w) (hr : Kd.C (Kd.int .i64) w A l.length l) :
 Calls Try.prog 66 #[.slice A l.length c,.func (.func g) #[] lb] w fun e w' => e = .returned (.bool (l.any p)) ∧ Below w.heap.size w w' := by
 have hx := XY p l 0 (by omega);change decide (idxOf p l ≥ 0) = _ at hx;rw [← hx];have HC := Lib.hid (IndexFunc_int p g lb eg A c l w hp hr);clear hx hp hr
 go_enter Try.func66,Try.ntmps66
 go_wp2_with (go_at_call 78;refine HC.out.mono ?_;rintro e w' ⟨rfl,hb⟩)
 go_ret;exact ⟨rfl,hb⟩
end Go.Proofs.Ytomlfbmfdoallaa.PA

namespace Go.Proofs.Ytomlfbmfdoallaa.PA
open Go.RowKit Go.Proofs.YtomlfbmfdoallaaW.PrintWords Go.Proofs.YtomlfbmfdoallaaW.PrintLast Go.Proofs.YtomlfbmfdoallaaW.PrintMore
attribute [local go_sem] Xf Xe Xj Xk ZV ZU Xd Xc
set_option linter.unusedVariables false
set_option linter.unusedSimpArgs false
theorem enters67 : ∀ args w,(callFunc 67 args).run Try.prog w = .ok (.enter 67 args) w := Go.Proofs.enters_of Try.func67 (by kernel_rfl) rfl
def inTime (n : Int) : Bool := decide (0 ≤ n) && decide (n ≤ 1000000000)
theorem Z1.eq (n a b : Int) : Z1.f n a b = some (decide (a ≤ n) && decide (n ≤ b)) := by
 unfold Z1.f
 by_cases h : a ≤ n <;> simp [h]
theorem asked1_calls (x : Int) (w : World) : Calls Try.prog 67 #[.int .i64 x] w fun e w' => e = .returned (.bool (!inTime x)) ∧ Below w.heap.size w w' := by
 have HC := Lib.hid (Z1.calls x 0 1000000000 (inTime x) w (Z1.eq _ _ _))
 go_enter Try.func67,Try.ntmps67
 go_wp2_with (go_at_call 43;refine HC.out.mono ?_;rintro e w' ⟨rfl,⟨nd,rfl⟩⟩)
 go_ret;exact ⟨rfl,by repeat (first | exact Below.refl _ _ | apply Za)⟩
def ZO.f (k : Nat) (l0 : List S27) (l1 : List Int) : Option Int :=
 (Zy.f k l0).bind fun v => if v = true then (if l1.any (fun n => !inTime n) = true then some 7 else some 0) else some 1
theorem ZO.mono : ∀ a0 a1 k,LeO (ZO.f k a0 a1) (ZO.f (k + 1) a0 a1) := by
 intro a0 a1 k;unfold ZO.f;exact LeO.bind (Zy.mono _ _) (fun _ => LeO.refl _)
set_option maxHeartbeats 2000000 in
theorem ZO.calls (k : Nat) (A0 : Option Addr) (c0 : Nat) (l0 : List (S27)) (A1 : Option Addr) (c1 : Nat) (l1 : List Int) (r : Int) (w : World) (hr0 : Kd.C k27 w A0 l0.length l0) (hc0 : l0.length ≤ c0) (hr1 : Kd.C (Kd.int .i64) w A1 l1.length l1) (hc1 : l1.length ≤ c1) (h : ZO.f k l0 l1 = some r) :
 Calls Try.prog 40 #[.slice A0 l0.length c0,.slice A1 l1.length c1] w fun e w' => e = .returned (.int .i64 r) ∧ Below w.heap.size w w' := by
 unfold ZO.f at h;obtain ⟨v,hv,h⟩ := Option.bind_eq_some_iff.mp h;have HR1 := Zd.mk hr1;have HV := Lib.hid (Zy.calls k A0 c0 l0 v w hr0 hc0 hv);clear hr0 hr1 hv
 cases v with
 | false =>
  obtain rfl := Option.some.inj h
  go_enter Try.func40,Try.ntmps40
  go_wp2_with (go_at_call 25;refine HV.out.mono ?_;rintro e w1 ⟨rfl,hb1⟩)
  go_ret;exact ⟨rfl,hb1⟩
 | true =>
  go_enter Try.func40,Try.ntmps40
  go_wp2_with (go_at_call 25;refine HV.out.mono ?_;rintro e w1 ⟨rfl,hb1⟩)
  refine (ContainsFunc_int (fun n => !inTime n) 67 #[] enters67 A1 c1 l1 w1 (fun W x _ => asked1_calls x W) (Kd.ZK HR1.out hb1)).mono ?_
  cases hq : l1.any (fun n => !inTime n)
  all_goals
   rw [hq] at h;obtain rfl := Option.some.inj h;clear h hq;rintro e w2 ⟨rfl,hb2⟩
   go_wp2
   go_ret;exact ⟨rfl,hb1.trans (hb2.mono hb1.size)⟩
end Go.Proofs.Ytomlfbmfdoallaa.PA

namespace Go.Proofs.Ytomlfbmfdoallaa.PA
open Go.RowKit Go.Proofs.YtomlfbmfdoallaaW.PrintWords Go.Proofs.YtomlfbmfdoallaaW.PrintLast Go.Proofs.YtomlfbmfdoallaaW.PrintMore
attribute [local go_sem] Xf Xe Xj Xk ZV ZU Xd Xc
set_option linter.unusedVariables false
set_option linter.unusedSimpArgs false
def Xl.f (a0 : Int) (a1 : Int) : Option (Int) := if a0 < 0 then (if a1 = 0 then (none) else (some (wrap64 (-(wrap64 (Int.tdiv (wrap64 ((wrap64 (-a0)) + (wrap64 (Int.tdiv a1 2)))) a1)))))) else (if a1 = 0 then (none) else (if (Int.tmod a0 a1) ≥ (wrap64 (a1 - (Int.tmod a0 a1))) then (some (wrap64 ((wrap64 (Int.tdiv a0 a1)) + 1))) else (some (wrap64 (Int.tdiv a0 a1)))))
set_option maxHeartbeats 8000000 in
set_option maxRecDepth 100000 in
theorem Xl.calls (a0 : Int) (a1 : Int) (r : Int) (w : World) (h : Xl.f a0 a1 = some r) :
 Calls Try.prog 44 #[.int .i64 a0,.int .i64 a1] w fun e w' => e = .returned (.int .i64 r) ∧ Drawn0 w w' := by
 have H : (if a0 < 0 then (if a1 = 0 then (none) else (some (wrap64 (-(wrap64 (Int.tdiv (wrap64 ((wrap64 (-a0)) + (wrap64 (Int.tdiv a1 2)))) a1)))))) else (if a1 = 0 then (none) else (if (Int.tmod a0 a1) ≥ (wrap64 (a1 - (Int.tmod a0 a1))) then (some (wrap64 ((wrap64 (Int.tdiv a0 a1)) + 1))) else (some (wrap64 (Int.tdiv a0 a1)))))) = some r := h;clear h
 by_cases c3 : a0 < 0
 · rw [if_pos c3] at H
   have c3b0 : decide (a0 < 0) = true := decide_eq_true c3;clear c3
   by_cases c4 : a1 = 0
   · rw [if_pos c4] at H
     exact absurd H (by simp)
   · rw [if_neg c4] at H
     have c4b0 : (a1 == 0) = false := beq_eq_false_iff_ne.mpr c4;have c4b1 : (a1 != 0) = true := bne_iff_ne.mpr c4;obtain rfl := Option.some.inj H
     go_enter Try.func44,Try.ntmps44
     go_wp2
     repeat (go_quiet (fail);try go_wp2)
     go_ret;exact ⟨by first | rfl | (simp;done) | (simp [*];done),by repeat (first | exact Drawn0.refl _ | apply Drawn0.step)⟩
 · rw [if_neg c3] at H
   have c3b0 : decide (a0 < 0) = false := decide_eq_false c3;clear c3
   by_cases c5 : a1 = 0
   · rw [if_pos c5] at H
     exact absurd H (by simp)
   · rw [if_neg c5] at H
     have c5b0 : (a1 == 0) = false := beq_eq_false_iff_ne.mpr c5;have c5b1 : (a1 != 0) = true := bne_iff_ne.mpr c5
     by_cases c6 : (Int.tmod a0 a1) ≥ (wrap64 (a1 - (Int.tmod a0 a1)))
     · rw [if_pos c6] at H
       have c6b0 : decide ((wrap64 (a1 - (Int.tmod a0 a1))) ≤ (Int.tmod a0 a1)) = true := decide_eq_true c6;clear c6;obtain rfl := Option.some.inj H
       go_enter Try.func44,Try.ntmps44
       go_wp2
       repeat (go_quiet (fail);try go_wp2)
       go_ret;exact ⟨by first | rfl | (simp;done) | (simp [*];done),by repeat (first | exact Drawn0.refl _ | apply Drawn0.step)⟩
     · rw [if_neg c6] at H
       have c6b0 : decide ((wrap64 (a1 - (Int.tmod a0 a1))) ≤ (Int.tmod a0 a1)) = false := decide_eq_false c6;clear c6;obtain rfl := Option.some.inj H
       go_enter Try.func44,Try.ntmps44
       go_wp2
       repeat (go_quiet (fail);try go_wp2)
       go_ret;exact ⟨by first | rfl | (simp;done) | (simp [*];done),by repeat (first | exact Drawn0.refl _ | apply Drawn0.step)⟩
end Go.Proofs.Ytomlfbmfdoallaa.PA

namespace Go.Proofs.Ytomlfbmfdoallaa.PA
open Go.RowKit Go.Proofs.YtomlfbmfdoallaaW.PrintWords Go.Proofs.YtomlfbmfdoallaaW.PrintLast Go.Proofs.YtomlfbmfdoallaaW.PrintMore
attribute [local go_sem] Xf Xe Xj Xk ZV ZU Xd Xc
set_option linter.unusedVariables false
set_option linter.unusedSimpArgs false
def X9.f (a0_0 : Int) (a1 : Int) : Option (Int) := (Xl.f (wrap64 (a1 * a0_0)) 65536).bind fun t102 => (some t102)
set_option maxHeartbeats 8000000 in
set_option maxRecDepth 100000 in
theorem X9.calls (a0_0 : Int) (a1 : Int) (r : Int) (w : World) (h : X9.f a0_0 a1 = some r) :
 Calls Try.prog 116 #[.agg #[.int .i64 a0_0],.int .i64 a1] w fun e w' => e = .returned (.int .i64 r) ∧ Below w.heap.size w w' := by
 have hu104 := Try.underlying104;have HB := Zd.mk (Below.refl w.heap.size w);have H : ((Xl.f (wrap64 (a1 * a0_0)) 65536).bind fun t102 => (some t102)) = some r := h;clear h;replace H := Option.bind_eq_some_iff.mp H;obtain ⟨t102,A30,H⟩ := H;replace H : (some t102) = some r := H;have A3 := Zd.mk A30;clear A30;obtain rfl := Option.some.inj H
 go_enter Try.func116,Try.ntmps116
 go_wp2_with (first | ((with_reducible refine Xq (N := 2) rfl ?_);refine Xy ?hg (N := 2) ?hd (cs := #[.int .i64 a0_0]) (t := 104) ?hr ?_;(case hd => rfl);(case hg => rfl);(case hr => first | (go_simp;done) | (go_simp;rfl));intro gb101 hg w4 hbox hb;have n0_ := Zd.mk (Z0 (by repeat (first | (with_reducible first | exact HB.out | apply Zc | apply Za | apply Zb) | exact HB.out)) hb);have n1_ := Zd.mk (hbox);have n2_ := Zd.mk ((by rw [hg];exact (ZJ (by repeat (first | (with_reducible first | exact HB.out | apply Zc | apply Za | apply Zb) | exact HB.out))) : w.heap.size ≤ gb101));have n3_ := Zd.mk ((by rw [hg];exact (ZJ (by repeat (first | (with_reducible first | exact HB.out | apply Zc | apply Za | apply Zb) | exact HB.out))) : w.heap.size ≤ gb101));clear HB;have HB := n0_;have BK101 := n1_;have GW101 := n2_;have GE101 := n3_;clear n0_ n1_ n2_ n3_;clear hb hbox hg;have hcz5_0 : w4.cell? ⟨gb101,0,none⟩ = some (.int .i64 a0_0) := (Zm BK101.out 0).trans rfl;have hfz5_0 := Zr BK101.out 0) | ((with_reducible refine Z2 (f := 44) rfl ?_);refine ZP (some 9) rfl rfl Try.func44 (by kernel_rfl) rfl #[.int .i64 (wrap64 (a1 * a0_0)),.int .i64 65536] rfl (by (try simp only [List.map_toArray,List.map_cons,List.map_nil]);first | done | rfl | (simp only [List.length_drop,List.length_take];rfl)) ?_;(with_reducible refine (Xl.calls (wrap64 (a1 * a0_0)) 65536 t102 _ A3.out).mono ?_);rintro e w' ⟨rfl,⟨nd,rfl⟩⟩;refine ⟨_,rfl,?_⟩))
 go_ret;exact ⟨by first | rfl | (simp [Zt,Zv] <;> rfl) | (simp [*,Zt,Zv] <;> rfl),by repeat (first | (with_reducible first | exact HB.out | apply Zc | apply Za | apply Zb | refine Z9 ?_ GE101.out) | exact HB.out)⟩
end Go.Proofs.Ytomlfbmfdoallaa.PA

namespace Go.Proofs.Ytomlfbmfdoallaa.PA
open Go.RowKit Go.Proofs.YtomlfbmfdoallaaW.PrintWords Go.Proofs.YtomlfbmfdoallaaW.PrintLast Go.Proofs.YtomlfbmfdoallaaW.PrintMore
attribute [local go_sem] Xf Xe Xj Xk ZV ZU Xd Xc
set_option linter.unusedVariables false
set_option linter.unusedSimpArgs false
def XM.f (a0_0 : Int) (a1 : Int) : Option (Int) := some a0_0
set_option maxHeartbeats 8000000 in
set_option maxRecDepth 100000 in
theorem XM.calls (a0_0 : Int) (a1 : Int) (r : Int) (w : World) (h : XM.f a0_0 a1 = some r) :
 Calls Try.prog 117 #[.agg #[.int .i64 a0_0],.int .i64 a1] w fun e w' => e = .returned (.int .i64 r) ∧ Below w.heap.size w w' := by
 have hu104 := Try.underlying104;have HB := Zd.mk (Below.refl w.heap.size w);have H : (some a0_0) = some r := h;clear h;obtain rfl := Option.some.inj H
 go_enter Try.func117,Try.ntmps117
 go_wp2_with (first | ((with_reducible refine Xq (N := 2) rfl ?_);refine Xy ?hg (N := 2) ?hd (cs := #[.int .i64 a0_0]) (t := 104) ?hr ?_;(case hd => rfl);(case hg => rfl);(case hr => first | (go_simp;done) | (go_simp;rfl));intro gb103 hg w3 hbox hb;have n0_ := Zd.mk (Z0 (by repeat (first | (with_reducible first | exact HB.out | apply Zc | apply Za | apply Zb) | exact HB.out)) hb);have n1_ := Zd.mk (hbox);have n2_ := Zd.mk ((by rw [hg];exact (ZJ (by repeat (first | (with_reducible first | exact HB.out | apply Zc | apply Za | apply Zb) | exact HB.out))) : w.heap.size ≤ gb103));have n3_ := Zd.mk ((by rw [hg];exact (ZJ (by repeat (first | (with_reducible first | exact HB.out | apply Zc | apply Za | apply Zb) | exact HB.out))) : w.heap.size ≤ gb103));clear HB;have HB := n0_;have BK103 := n1_;have GW103 := n2_;have GE103 := n3_;clear n0_ n1_ n2_ n3_;clear hb hbox hg;have hcz4_0 : w3.cell? ⟨gb103,0,none⟩ = some (.int .i64 a0_0) := (Zm BK103.out 0).trans rfl;have hfz4_0 := Zr BK103.out 0))
 go_ret;exact ⟨by first | rfl | (simp [Zt,Zv] <;> rfl) | (simp [*,Zt,Zv] <;> rfl),by repeat (first | (with_reducible first | exact HB.out | apply Zc | apply Za | apply Zb | refine Z9 ?_ GE103.out) | exact HB.out)⟩
end Go.Proofs.Ytomlfbmfdoallaa.PA

namespace Go.Proofs.Ytomlfbmfdoallaa.PA
open Go.RowKit Go.Proofs.YtomlfbmfdoallaaW.PrintWords Go.Proofs.YtomlfbmfdoallaaW.PrintLast Go.Proofs.YtomlfbmfdoallaaW.PrintMore
attribute [local go_sem] Xf Xe Xj Xk ZV ZU Xd Xc
set_option linter.unusedVariables false
set_option linter.unusedSimpArgs false
def X3.f (a0_0 : Int) (a0_1 : Int) (a0_2 : Int) (a1 : Int) : Option (Int) := (Xl.f (wrap64 ((wrap64 ((wrap64 ((wrap64 (2 * a0_2)) * a1)) * a0_0)) + (wrap64 ((wrap64 ((wrap64 (a0_1 - a0_0)) * a1)) * (wrap64 (a1 - 1)))))) (wrap64 ((wrap64 (2 * a0_2)) * 65536))).bind fun t105 => (some t105)
set_option maxHeartbeats 8000000 in
set_option maxRecDepth 100000 in
theorem X3.calls (a0_0 : Int) (a0_1 : Int) (a0_2 : Int) (a1 : Int) (r : Int) (w : World) (h : X3.f a0_0 a0_1 a0_2 a1 = some r) :
 Calls Try.prog 118 #[.agg #[.int .i64 a0_0,.int .i64 a0_1,.int .i64 a0_2],.int .i64 a1] w fun e w' => e = .returned (.int .i64 r) ∧ Below w.heap.size w w' := by
 have hu106 := Try.underlying106;have HB := Zd.mk (Below.refl w.heap.size w);have H : ((Xl.f (wrap64 ((wrap64 ((wrap64 ((wrap64 (2 * a0_2)) * a1)) * a0_0)) + (wrap64 ((wrap64 ((wrap64 (a0_1 - a0_0)) * a1)) * (wrap64 (a1 - 1)))))) (wrap64 ((wrap64 (2 * a0_2)) * 65536))).bind fun t105 => (some t105)) = some r := h;clear h;replace H := Option.bind_eq_some_iff.mp H;obtain ⟨t105,A30,H⟩ := H;replace H : (some t105) = some r := H;have A3 := Zd.mk A30;clear A30;obtain rfl := Option.some.inj H
 go_enter Try.func118,Try.ntmps118
 go_wp2_with (first | ((with_reducible refine Xq (N := 2) rfl ?_);refine Xy ?hg (N := 2) ?hd (cs := #[.int .i64 a0_0,.int .i64 a0_1,.int .i64 a0_2]) (t := 106) ?hr ?_;(case hd => rfl);(case hg => rfl);(case hr => first | (go_simp;done) | (go_simp;rfl));intro gb104 hg w4 hbox hb;have n0_ := Zd.mk (Z0 (by repeat (first | (with_reducible first | exact HB.out | apply Zc | apply Za | apply Zb) | exact HB.out)) hb);have n1_ := Zd.mk (hbox);have n2_ := Zd.mk ((by rw [hg];exact (ZJ (by repeat (first | (with_reducible first | exact HB.out | apply Zc | apply Za | apply Zb) | exact HB.out))) : w.heap.size ≤ gb104));have n3_ := Zd.mk ((by rw [hg];exact (ZJ (by repeat (first | (with_reducible first | exact HB.out | apply Zc | apply Za | apply Zb) | exact HB.out))) : w.heap.size ≤ gb104));clear HB;have HB := n0_;have BK104 := n1_;have GW104 := n2_;have GE104 := n3_;clear n0_ n1_ n2_ n3_;clear hb hbox hg;have hcz5_0 : w4.cell? ⟨gb104,0,none⟩ = some (.int .i64 a0_0) := (Zm BK104.out 0).trans rfl;have hcz5_1 : w4.cell? ⟨gb104,1,none⟩ = some (.int .i64 a0_1) := (Zm BK104.out 1).trans rfl;have hcz5_2 : w4.cell? ⟨gb104,2,none⟩ = some (.int .i64 a0_2) := (Zm BK104.out 2).trans rfl;have hfz5_0 := Zr BK104.out 0;have hfz5_1 := Zr BK104.out 1;have hfz5_2 := Zr BK104.out 2) | ((with_reducible refine Z2 (f := 44) rfl ?_);refine ZP (some 28) rfl rfl Try.func44 (by kernel_rfl) rfl #[.int .i64 (wrap64 ((wrap64 ((wrap64 ((wrap64 (2 * a0_2)) * a1)) * a0_0)) + (wrap64 ((wrap64 ((wrap64 (a0_1 - a0_0)) * a1)) * (wrap64 (a1 - 1)))))),.int .i64 (wrap64 ((wrap64 (2 * a0_2)) * 65536))] rfl (by (try simp only [List.map_toArray,List.map_cons,List.map_nil]);first | done | rfl | (simp only [List.length_drop,List.length_take];rfl)) ?_;(with_reducible refine (Xl.calls (wrap64 ((wrap64 ((wrap64 ((wrap64 (2 * a0_2)) * a1)) * a0_0)) + (wrap64 ((wrap64 ((wrap64 (a0_1 - a0_0)) * a1)) * (wrap64 (a1 - 1)))))) (wrap64 ((wrap64 (2 * a0_2)) * 65536)) t105 _ A3.out).mono ?_);rintro e w' ⟨rfl,⟨nd,rfl⟩⟩;refine ⟨_,rfl,?_⟩))
 go_ret;exact ⟨by first | rfl | (simp [Zt,Zv] <;> rfl) | (simp [*,Zt,Zv] <;> rfl),by repeat (first | (with_reducible first | exact HB.out | apply Zc | apply Za | apply Zb | refine Z9 ?_ GE104.out) | exact HB.out)⟩
end Go.Proofs.Ytomlfbmfdoallaa.PA

namespace Go.Proofs.Ytomlfbmfdoallaa.PA
open Go.RowKit Go.Proofs.YtomlfbmfdoallaaW.PrintWords Go.Proofs.YtomlfbmfdoallaaW.PrintLast Go.Proofs.YtomlfbmfdoallaaW.PrintMore
attribute [local go_sem] Xf Xe Xj Xk ZV ZU Xd Xc
set_option linter.unusedVariables false
set_option linter.unusedSimpArgs false
def X6.f (a0_0 : Int) (a0_1 : Int) (a0_2 : Int) (a1 : Int) : Option (Int) := (Xl.f (wrap64 ((wrap64 (a0_0 * (wrap64 (a0_2 - a1)))) + (wrap64 (a0_1 * a1)))) a0_2).bind fun t107 => (some t107)
set_option maxHeartbeats 8000000 in
set_option maxRecDepth 100000 in
theorem X6.calls (a0_0 : Int) (a0_1 : Int) (a0_2 : Int) (a1 : Int) (r : Int) (w : World) (h : X6.f a0_0 a0_1 a0_2 a1 = some r) :
 Calls Try.prog 119 #[.agg #[.int .i64 a0_0,.int .i64 a0_1,.int .i64 a0_2],.int .i64 a1] w fun e w' => e = .returned (.int .i64 r) ∧ Below w.heap.size w w' := by
 have hu106 := Try.underlying106;have HB := Zd.mk (Below.refl w.heap.size w);have H : ((Xl.f (wrap64 ((wrap64 (a0_0 * (wrap64 (a0_2 - a1)))) + (wrap64 (a0_1 * a1)))) a0_2).bind fun t107 => (some t107)) = some r := h;clear h;replace H := Option.bind_eq_some_iff.mp H;obtain ⟨t107,A30,H⟩ := H;replace H : (some t107) = some r := H;have A3 := Zd.mk A30;clear A30;obtain rfl := Option.some.inj H
 go_enter Try.func119,Try.ntmps119
 go_wp2_with (first | ((with_reducible refine Xq (N := 2) rfl ?_);refine Xy ?hg (N := 2) ?hd (cs := #[.int .i64 a0_0,.int .i64 a0_1,.int .i64 a0_2]) (t := 106) ?hr ?_;(case hd => rfl);(case hg => rfl);(case hr => first | (go_simp;done) | (go_simp;rfl));intro gb106 hg w4 hbox hb;have n0_ := Zd.mk (Z0 (by repeat (first | (with_reducible first | exact HB.out | apply Zc | apply Za | apply Zb) | exact HB.out)) hb);have n1_ := Zd.mk (hbox);have n2_ := Zd.mk ((by rw [hg];exact (ZJ (by repeat (first | (with_reducible first | exact HB.out | apply Zc | apply Za | apply Zb) | exact HB.out))) : w.heap.size ≤ gb106));have n3_ := Zd.mk ((by rw [hg];exact (ZJ (by repeat (first | (with_reducible first | exact HB.out | apply Zc | apply Za | apply Zb) | exact HB.out))) : w.heap.size ≤ gb106));clear HB;have HB := n0_;have BK106 := n1_;have GW106 := n2_;have GE106 := n3_;clear n0_ n1_ n2_ n3_;clear hb hbox hg;have hcz5_0 : w4.cell? ⟨gb106,0,none⟩ = some (.int .i64 a0_0) := (Zm BK106.out 0).trans rfl;have hcz5_1 : w4.cell? ⟨gb106,1,none⟩ = some (.int .i64 a0_1) := (Zm BK106.out 1).trans rfl;have hcz5_2 : w4.cell? ⟨gb106,2,none⟩ = some (.int .i64 a0_2) := (Zm BK106.out 2).trans rfl;have hfz5_0 := Zr BK106.out 0;have hfz5_1 := Zr BK106.out 1;have hfz5_2 := Zr BK106.out 2) | ((with_reducible refine Z2 (f := 44) rfl ?_);refine ZP (some 19) rfl rfl Try.func44 (by kernel_rfl) rfl #[.int .i64 (wrap64 ((wrap64 (a0_0 * (wrap64 (a0_2 - a1)))) + (wrap64 (a0_1 * a1)))),.int .i64 a0_2] rfl (by (try simp only [List.map_toArray,List.map_cons,List.map_nil]);first | done | rfl | (simp only [List.length_drop,List.length_take];rfl)) ?_;(with_reducible refine (Xl.calls (wrap64 ((wrap64 (a0_0 * (wrap64 (a0_2 - a1)))) + (wrap64 (a0_1 * a1)))) a0_2 t107 _ A3.out).mono ?_);rintro e w' ⟨rfl,⟨nd,rfl⟩⟩;refine ⟨_,rfl,?_⟩))
 go_ret;exact ⟨by first | rfl | (simp [Zt,Zv] <;> rfl) | (simp [*,Zt,Zv] <;> rfl),by repeat (first | (with_reducible first | exact HB.out | apply Zc | apply Za | apply Zb | refine Z9 ?_ GE106.out) | exact HB.out)⟩
end Go.Proofs.Ytomlfbmfdoallaa.PA

namespace Go.Proofs.Ytomlfbmfdoallaa.PA
open Go.RowKit Go.Proofs.YtomlfbmfdoallaaW.PrintWords Go.Proofs.YtomlfbmfdoallaaW.PrintLast Go.Proofs.YtomlfbmfdoallaaW.PrintMore
set_option linter.unusedVariables false
set_option linter.unusedSimpArgs false
def rnd (a b : Int) : Int := if a < 0 then -((-2 * a + b) / (2 * b)) else (2 * a + b) / (2 * b)
theorem w64 {x : Int} (h0 : -9223372036854775808 ≤ x) (h1 : x ≤ 9223372036854775807) : wrap64 x = x := by unfold wrap64;omega
theorem Yf (a b : Int) (ha : 0 ≤ a) (hb : 0 < b) : (2 * a + b) / (2 * b) = if a % b ≥ b - a % b then a / b + 1 else a / b := by
 have h := Int.mul_ediv_add_emod a b;have hr0 := Int.emod_nonneg a (by omega : b ≠ 0);have hr1 := Int.emod_lt_of_pos a hb
 generalize a / b = q at *
 generalize a % b = r at *
 subst h
 have e1 : (q + 1) * (2 * b) = 2 * (b * q) + 2 * b := by grind
 have e2 : (q + 1 + 1) * (2 * b) = 2 * (b * q) + 4 * b := by grind
 have e3 : q * (2 * b) = 2 * (b * q) := by grind
 split
 · rw [Int.ediv_eq_iff_of_pos (by omega)]
   omega
 · rw [Int.ediv_eq_iff_of_pos (by omega)]
   omega
theorem Xl.eq (a b : Int) (hb : 0 < b) (hb2 : b ≤ 4611686018427387904) (ha : -4611686018427387904 ≤ a) (ha2 : a ≤ 4611686018427387904) : Xl.f a b = some (rnd a b) := by
 unfold Xl.f rnd
 by_cases h : a < 0
 · rw [if_pos h,if_neg (by omega),if_pos h]
   have e0 : wrap64 (-a) = -a := w64 (by omega) (by omega);have e1 : Int.tdiv b 2 = b / 2 := Int.tdiv_eq_ediv_of_nonneg (by omega);rw [e0,e1,w64 (x := b / 2) (by omega) (by omega),w64 (x := -a + b / 2) (by omega) (by omega),Int.tdiv_eq_ediv_of_nonneg (by omega)]
   have e2 : (-a + b / 2) / b = (-2 * a + b) / (2 * b) := by
    have h1 : (-2 * a + b) = 2 * (-a) + b := by omega
    rw [h1,Yf (-a) b (by omega) hb];have h2 := Int.mul_ediv_add_emod (-a) b;have hr0 := Int.emod_nonneg (-a) (by omega : b ≠ 0);have hr1 := Int.emod_lt_of_pos (-a) hb
    generalize (-a) / b = q at *
    generalize (-a) % b = r at *
    have e1 : (q + 1) * b = b * q + b := by grind
    have e2 : (q + 1 + 1) * b = b * q + 2 * b := by grind
    have e3 : q * b = b * q := by grind
    split
    · rw [Int.ediv_eq_iff_of_pos (by omega)];omega
    · rw [Int.ediv_eq_iff_of_pos (by omega)];omega
   rw [e2];have h3 : 0 ≤ (-2 * a + b) / (2 * b) := Int.ediv_nonneg (by omega) (by omega);have h4 : (-2 * a + b) / (2 * b) ≤ -2 * a + b := Int.ediv_le_self _ (by omega)
   have h5 : (-2 * a + b) / (2 * b) ≤ 6917529027641081857 := by
    rw [← e2];have := Int.ediv_le_self (a := -a + b / 2) b (by omega);omega
   rw [w64 (x := (-2 * a + b) / (2 * b)) (by omega) (by omega),w64 (by omega) (by omega)]
 · rw [if_neg h,if_neg (by omega),if_neg h]
   rw [Int.tmod_eq_emod_of_nonneg (by omega),Int.tdiv_eq_ediv_of_nonneg (by omega),Yf a b (by omega) hb];have hr0 := Int.emod_nonneg a (by omega : b ≠ 0);have hr1 := Int.emod_lt_of_pos a hb;have h3 : 0 ≤ a / b := Int.ediv_nonneg (by omega) (by omega);have h4 : a / b ≤ a := Int.ediv_le_self _ (by omega);rw [w64 (x := b - a % b) (by omega) (by omega),w64 (x := a / b) (by omega) (by omega),w64 (x := a / b + 1) (by omega) (by omega)]
   split <;> rfl
theorem mulb {n p N P : Int} (h0 : 0 ≤ n) (h1 : n ≤ N) (h2 : 0 ≤ p) (h3 : p ≤ P) : 0 ≤ n * p ∧ n * p ≤ N * P :=
 ⟨Int.mul_nonneg h0 h2,Int.mul_le_mul h1 h3 h2 (by omega)⟩
theorem Qm (p n : Int) (h0 : 0 ≤ n) (h1 : n ≤ 1000000000) (h2 : 1 ≤ p) (h3 : p ≤ 67108864) : X9.f p n = some (rnd (n * p) 65536) := by
 have := mulb h0 h1 (by omega : 0 ≤ p) h3;unfold X9.f;rw [w64 (by omega) (by omega),Xl.eq _ _ (by omega) (by omega) (by omega) (by omega)];rfl
theorem XT (p q l n : Int) (h0 : 0 ≤ n) (h1 : n ≤ 10000) (hl0 : 1 ≤ l) (hl1 : l ≤ 10000) (h2 : 1 ≤ p) (h3 : p ≤ 67108864) (h4 : 1 ≤ q) (h5 : q ≤ 67108864) :
 X3.f p q l n = some (rnd (2 * l * n * p + (q - p) * n * (n - 1)) (2 * l * 65536)) := by
 have a1 := mulb (by omega : 0 ≤ 2 * l) (by omega : 2 * l ≤ 20000) h0 h1;have a2 := mulb a1.1 a1.2 (by omega : 0 ≤ p) h3
 have a3 : -671088640000 ≤ (q - p) * n ∧ (q - p) * n ≤ 671088640000 := by
  have := mulb (by omega : 0 ≤ q) h5 h0 h1;have := mulb (by omega : 0 ≤ p) h3 h0 h1;rw [Int.sub_mul];omega
 have a4 : -6710886400000000 ≤ (q - p) * n * (n - 1) ∧ (q - p) * n * (n - 1) ≤ 6710886400000000 := by
  by_cases hn : n = 0
  · subst hn;omega
  · have b0 := mulb (n := (q - p) * n + 671088640000) (N := 1342177280000) (by omega) (by omega) (by omega : 0 ≤ n - 1) (by omega : n - 1 ≤ 10000)
    have b1 := mulb (n := 671088640000 - (q - p) * n) (N := 1342177280000) (by omega) (by omega) (by omega : 0 ≤ n - 1) (by omega : n - 1 ≤ 10000);rw [Int.add_mul] at b0;rw [Int.sub_mul] at b1;omega
 unfold X3.f
 rw [w64 (x := 2 * l) (by omega) (by omega),w64 (x := 2 * l * n) (by omega) (by omega),w64 (x := 2 * l * n * p) (by omega) (by omega),w64 (x := q - p) (by omega) (by omega),w64 (x := (q - p) * n) (by omega) (by omega),
  w64 (x := n - 1) (by omega) (by omega),w64 (x := (q - p) * n * (n - 1)) (by omega) (by omega),w64 (x := _ + _) (by omega) (by omega),w64 (x := 2 * l * 65536) (by omega) (by omega),Xl.eq _ _ (by omega) (by omega) (by omega) (by omega)]
 rfl
theorem changing_period_eq (p q l k : Int) (h0 : 0 ≤ k) (h1 : k ≤ l) (hl0 : 1 ≤ l) (hl1 : l ≤ 10000) (h2 : 1 ≤ p) (h3 : p ≤ 67108864) (h4 : 1 ≤ q) (h5 : q ≤ 67108864) :
 X6.f p q l k = some (rnd (p * (l - k) + q * k) l) := by
 have a1 := mulb (by omega : 0 ≤ p) h3 (by omega : 0 ≤ l - k) (by omega : l - k ≤ 10000);have a2 := mulb (by omega : 0 ≤ q) h5 h0 (by omega : k ≤ 10000);unfold X6.f;rw [w64 (x := l - k) (by omega) (by omega),w64 (x := p * (l - k)) (by omega) (by omega),w64 (x := q * k) (by omega) (by omega),w64 (x := _ + _) (by omega) (by omega),Xl.eq _ _ (by omega) (by omega) (by omega) (by omega)];rfl
inductive Crv where
 | even (p : Int)
 | changing (p q l : Int)
def Crv.val : Crv → Value
 | .even p => .iface 104 (.agg #[.int .i64 p])
 | .changing p q l => .iface 106 (.agg #[.int .i64 p,.int .i64 q,.int .i64 l])
def Crv.frames : Crv → Int → Int
 | .even p,n => rnd (n * p) 65536
 | .changing p q l,n => rnd (2 * l * n * p + (q - p) * n * (n - 1)) (2 * l * 65536)
def Crv.period : Crv → Int → Int
 | .even p,_ => p
 | .changing p q l,k => rnd (p * (l - k) + q * k) l
structure Prt where
 c : Crv
 tick : Int
 frame : Int
 fin : Int
def Prt.val (x : Prt) : Value := .agg #[x.c.val,.int .i64 x.tick,.int .i64 x.frame,.int .i64 x.fin]
def crvOf (t : S27) : Option S27 → Crv
 | none => .even t.f1
 | some t2 => if t.f2 = 1 then .changing t.f1 t2.f1 (t2.f0 - t.f0) else .even t.f1
def prts : Int → List S27 → List Prt
 | _,[] => []
 | s,t :: r => ⟨crvOf t r.head?,t.f0,s,match r.head? with | none => -1 | some t2 => t2.f0⟩ :: prts (match r.head? with | none => s | some t2 => s + (crvOf t (some t2)).frames (t2.f0 - t.f0)) r
def MapFrom : List S27 → Prop
 | [] => True
 | [t] => 0 ≤ t.f0 ∧ t.f0 ≤ 1000000000 ∧ 1 ≤ t.f1 ∧ t.f1 ≤ 67108864 ∧ t.f2 = 0
 | t :: t2 :: r => 0 ≤ t.f0 ∧ t.f0 ≤ 1000000000 ∧ 1 ≤ t.f1 ∧ t.f1 ≤ 67108864 ∧ 0 ≤ t.f2 ∧ t.f2 ≤ 1 ∧ t.f0 < t2.f0 ∧ (t.f2 = 1 → t2.f0 - t.f0 ≤ 10000) ∧ MapFrom (t2 :: r)
def MapOk (l : List S27) : Prop := 1 ≤ l.length ∧ l.length ≤ 50 ∧ (∀ t,l.head? = some t → t.f0 = 0) ∧ MapFrom l
end Go.Proofs.Ytomlfbmfdoallaa.PA

namespace Go.Proofs.Ytomlfbmfdoallaa.PA
open Go.RowKit Go.Shelf Go.Proofs.YtomlfbmfdoallaaW.PrintWords Go.Proofs.YtomlfbmfdoallaaW.PrintLast Go.Proofs.YtomlfbmfdoallaaW.PrintMore
set_option linter.unusedVariables false
set_option linter.unusedSimpArgs false
attribute [local go_sem] Oper.semAt_some
theorem AbidesFrom.QE {β : Type} {B : Nat} {J : β → World → Prop} (h : AbidesFrom B J) {s : β} {W : World} (hs : J s W) (o : Obj) : J s (W.alloc o) :=
 h s W _ none hs (World.grownBy_alloc W o none) (fun r e => by cases e)
theorem QY {l r : List S27} {k : Nat} {t : S27} (h : l.drop k = t :: r) : Zf l (k : Int) = t := by
 have : l[k]? = some t := by rw [← List.head?_drop,h];rfl
 simp [Zf,this]
theorem Ys {l r : List S27} {k : Nat} {t : S27} {start at_ : Int} {pre : List Prt} (hp : pre.length = k ∧ prts start l = pre ++ prts at_ (l.drop k)) (hd : l.drop k = t :: r) (hlast : ¬ k + 1 < l.length) :
 (pre ++ [(⟨.even t.f1,t.f0,at_,-1⟩ : Prt)]).length = k + 1 ∧ prts start l = (pre ++ [(⟨.even t.f1,t.f0,at_,-1⟩ : Prt)]) ++ prts at_ (l.drop (k + 1)) := by
 have hr : r = [] := by
  have := congrArg List.length hd;simp at this;exact List.eq_nil_of_length_eq_zero (by omega)
 subst hr;have hd2 : l.drop (k + 1) = [] := List.drop_eq_nil_of_le (by omega);refine ⟨by simp [hp.1],?_⟩;rw [hp.2,hd,hd2];simp [prts,crvOf]
theorem Yi {l r : List S27} {k : Nat} {t t2 : S27} {start at_ : Int} {pre : List Prt} (hp : pre.length = k ∧ prts start l = pre ++ prts at_ (l.drop k)) (hd : l.drop k = t :: t2 :: r) :
 (pre ++ [(⟨crvOf t (some t2),t.f0,at_,t2.f0⟩ : Prt)]).length = k + 1 ∧ prts start l = (pre ++ [(⟨crvOf t (some t2),t.f0,at_,t2.f0⟩ : Prt)]) ++ prts (at_ + (crvOf t (some t2)).frames (t2.f0 - t.f0)) (l.drop (k + 1)) := by
 have hd2 : l.drop (k + 1) = t2 :: r := by rw [← List.drop_drop,hd];rfl
 refine ⟨by simp [hp.1],?_⟩;rw [hp.2,hd,hd2];simp [prts]
theorem QO {l : List S27} {start at_ : Int} {pre : List Prt} {k : Nat} (h : pre.length = k ∧ prts start l = pre ++ prts at_ (l.drop k)) : pre <+: prts start l := ⟨_,h.2.symm⟩
theorem MapFrom.tail {t : S27} {r : List S27} (h : MapFrom (t :: r)) : MapFrom r := by
 cases r with
 | nil => trivial
 | cons t2 r => exact h.2.2.2.2.2.2.2.2
theorem MapFrom.drop {l : List S27} (h : MapFrom l) (k : Nat) : MapFrom (l.drop k) := by
 induction k generalizing l with
 | zero => exact h
 | succ k ih =>
  cases l with
  | nil => exact h
  | cons t r => exact ih h.tail
theorem QI {W : World} {a : Addr} {v : Value} (h : W.cell? a = some v) (o o' : Obj) : ((W.alloc o).alloc o').cell? a = some v := by
 have h1 := World.block_lt_of_cell? _ _ h;rw [World.cell?_alloc_lt _ _ _ (by simp;omega),World.cell?_alloc_lt _ _ _ h1];exact h
theorem Yp (a b A : Int) (hb : 0 < b) (ha : 0 ≤ a) (hA : a ≤ A * b) : 0 ≤ rnd a b ∧ rnd a b ≤ A + 1 := by
 unfold rnd;rw [if_neg (by omega)];refine ⟨Int.ediv_nonneg (by omega) (by omega),Int.lt_add_one_iff.1 (Int.ediv_lt_of_lt_mul (by omega) ?_)⟩
 grind
theorem QS (p n : Int) (h0 : 0 ≤ n) (h1 : n ≤ 1000000000) (h2 : 1 ≤ p) (h3 : p ≤ 67108864) : 0 ≤ rnd (n * p) 65536 ∧ rnd (n * p) 65536 ≤ 1024000000001 := by
 have := mulb h0 h1 (by omega : 0 ≤ p) h3;exact Yp _ _ 1024000000000 (by omega) this.1 (by omega)
theorem changing_num (p q l n : Int) (h0 : 0 ≤ n) (h1 : n ≤ l) (hl0 : 1 ≤ l) (h2 : 1 ≤ p) (h4 : 1 ≤ q) (M : Int) (hp : p ≤ M) (hq : q ≤ M) :
 0 ≤ 2 * l * n * p + (q - p) * n * (n - 1) ∧ 2 * l * n * p + (q - p) * n * (n - 1) ≤ (l * n * M) * 4 := by
 by_cases hn : n = 0
 · subst hn;simp
 · have e : 2 * l * n * p + (q - p) * n * (n - 1) = n * ((2 * l - (n - 1)) * p + q * (n - 1)) := by grind
   have a1 : 0 ≤ (2 * l - (n - 1)) * p := Int.mul_nonneg (by omega) (by omega);have a2 : 0 ≤ q * (n - 1) := Int.mul_nonneg (by omega) (by omega);have a3 : (2 * l - (n - 1)) * p ≤ (2 * l) * M := Int.mul_le_mul (by omega) hp (by omega) (by omega);have a4 : q * (n - 1) ≤ M * l := Int.mul_le_mul hq (by omega) (by omega) (by omega);rw [e];refine ⟨Int.mul_nonneg h0 (by omega),?_⟩;have a5 : n * ((2 * l - (n - 1)) * p + q * (n - 1)) ≤ n * (2 * l * M + M * l) := Int.mul_le_mul_of_nonneg_left (by omega) h0;have a6 : 0 ≤ l * n * M := Int.mul_nonneg (Int.mul_nonneg (by omega) h0) (by omega)
   have e2 : n * (2 * l * M + M * l) = 3 * (l * n * M) := by grind
   omega
theorem Qk (p q l n : Int) (h0 : 0 ≤ n) (h1 : n ≤ l) (hl0 : 1 ≤ l) (hl1 : l ≤ 10000) (h2 : 1 ≤ p) (h3 : p ≤ 67108864) (h4 : 1 ≤ q) (h5 : q ≤ 67108864) :
 0 ≤ rnd (2 * l * n * p + (q - p) * n * (n - 1)) (2 * l * 65536) ∧ rnd (2 * l * n * p + (q - p) * n * (n - 1)) (2 * l * 65536) ≤ 1024000000001 := by
 obtain ⟨a,b⟩ := changing_num p q l n h0 h1 hl0 h2 h4 67108864 h3 h5
 obtain ⟨c,d⟩ := Yp (2 * l * n * p + (q - p) * n * (n - 1)) (2 * l * 65536) (n * 2048) (by omega) a (by
  have e : n * 2048 * (2 * l * 65536) = (l * n * 67108864) * 4 := by grind
  omega)
 exact ⟨c,by omega⟩
theorem QK : ∀ p w,(method 244 104 (.agg #[.int .i64 p]) "continuo/tempo.frames").run Try.prog w = .ok (116,.agg #[.int .i64 p]) w := fun _ _ => by kernel_rfl
theorem Qj : ∀ p q l w,(method 244 106 (.agg #[.int .i64 p,.int .i64 q,.int .i64 l]) "continuo/tempo.frames").run Try.prog w = .ok (118,.agg #[.int .i64 p,.int .i64 q,.int .i64 l]) w := fun _ _ _ _ => by kernel_rfl
theorem MapFrom.head {t : S27} {r : List S27} (h : MapFrom (t :: r)) : 0 ≤ t.f0 ∧ t.f0 ≤ 1000000000 ∧ 1 ≤ t.f1 ∧ t.f1 ≤ 67108864 := by
 cases r with
 | nil => exact ⟨h.1,h.2.1,h.2.2.1,h.2.2.2.1⟩
 | cons t2 r => exact ⟨h.1,h.2.1,h.2.2.1,h.2.2.2.1⟩
theorem AbidesFrom.Xv {β : Type} {B : Nat} {J : β → World → Prop} (h : AbidesFrom B J) {s : β} {W W' : World} (hs : J s W) (hb : Below W.heap.size W W') : J s W' :=
 h s W W' none hs ⟨hb.os,hb.tape,hb.output,hb.size,fun i hi _ => hb.block i hi⟩ (fun r e => by cases e)
theorem bcell {W w1 : World} (hb : Below W.heap.size W w1) : (∀ b o,b < W.heap.size → w1.cell? ⟨b,o,none⟩ = W.cell? ⟨b,o,none⟩) ∧ (∀ b o,b < W.heap.size → w1.frozen? ⟨b,o,none⟩ = W.frozen? ⟨b,o,none⟩) :=
 ⟨fun b o h => hb.cell (p := ⟨b,o,none⟩) h,fun b o h => hb.frozen (p := ⟨b,o,none⟩) h⟩
structure KQ (m b1 b2 : Nat) (W W' : World) : Prop where
 below : Below m W W'
 one : W'.heap[b1]? = W.heap[b1]?
 two : W'.heap[b2]? = W.heap[b2]?
theorem KQ.refl (m b1 b2 : Nat) (W : World) : KQ m b1 b2 W W := ⟨Below.refl _ _,rfl,rfl⟩
theorem KQ.trans {m b1 b2 : Nat} {A B C : World} (h : KQ m b1 b2 A B) (k : KQ m b1 b2 B C) : KQ m b1 b2 A C := ⟨h.below.trans k.below,k.one.trans h.one,k.two.trans h.two⟩
theorem KQ.then {m b1 b2 : Nat} {A B C : World} (h : KQ m b1 b2 A B) (hm : m ≤ B.heap.size ∧ b1 < B.heap.size ∧ b2 < B.heap.size) (k : Below B.heap.size B C) : KQ m b1 b2 A C :=
 ⟨h.below.trans (k.mono hm.1),(k.block _ hm.2.1).trans h.one,(k.block _ hm.2.2).trans h.two⟩
theorem KQ.putObj {m b1 b2 : Nat} {W : World} {l : Nat} (o' : Obj) (hm : m ≤ l) (h1 : b1 ≠ l) (h2 : b2 ≠ l) (hl : l < W.heap.size) : KQ m b1 b2 W (W.putObj l o') :=
 ⟨(Below.refl m W).grown (grownBy_putObj' W l o') (by omega) (fun k e => by cases e;omega),World.putObj_heap_other h1,World.putObj_heap_other h2⟩
theorem enters79 : ∀ args w,(callFunc 79 args).run Try.prog w = .ok (.enter 79 args) w := Go.Proofs.enters_of Try.func79 (by kernel_rfl) rfl
set_option maxRecDepth 100000 in
set_option maxHeartbeats 2000000 in
theorem parts1_in (n : Nat) (hn : 3 ≤ n) (lp Bs Bl n₀ c : Nat) (A : Option Addr) (l : List S27) (start : Int) (hok : MapOk l) (hs0 : 0 ≤ start) (hs1 : start ≤ 1000000000) (J Jx : List Prt → World → Prop)
 (hY : ∀ pre x W,J pre W → pre.length < l.length → YieldAt Fence.wide (n - 1) Try.prog lp #[x.val] W fun e W' =>
  (e = .returned (.bool true) ∧ J (pre ++ [x]) W' ∧ KQ n₀ Bs Bl W W') ∨ (e = .returned (.bool false) ∧ Jx (pre ++ [x]) W'))
 (W : World) (hJ : AbidesFrom W.heap.size J) (hn0 : n₀ ≤ W.heap.size) (hBs : W.cell? ⟨Bs,0,none⟩ = some (.int .i64 start)) (hBl : W.cell? ⟨Bl,0,none⟩ = some (.slice A l.length c))
 (hC : ∀ W',Below n₀ W W' → Kd.C k27 W' A l.length l) (h0 : J [] W) :
 CallsIn Fence.wide n Try.prog 79 #[.func (.yield lp) #[] #[],.pointer (some ⟨Bs,0,none⟩),.pointer (some ⟨Bl,0,none⟩)] W fun e W' => (∃ v,e = .returned v) ∧
  ((∃ ys,ys = prts start l ∧ J ys W') ∨ (∃ pre,pre <+: prts start l ∧ Jx pre W')) := by
 refine callsIn_of_wp Try.func79 rfl trivial ?_ rfl;simp only [Try.ntmps79,List.size_toArray,List.length_cons,List.length_nil,Nat.reduceAdd,Nat.reduceSub,Array.replicate_succ,Array.replicate_zero,List.push_toArray,List.append_toArray,List.nil_append,List.cons_append];have hmax : l.length ≤ 50 := hok.2.1
 have h1 : 1 ≤ n := by omega
 gi_wp2
 gi_loopw [4,11] (fun v4 v11 wr => ∃ (k : Nat) (at_ : Int) (pre : List Prt),k ≤ l.length ∧ v4 = .int .i64 at_ ∧ v11 = .int .i64 k ∧ Zd (pre.length = k ∧ prts start l = pre ++ prts at_ (l.drop k)) ∧ Zd (J pre wr) ∧ Zd (KQ n₀ Bs Bl W wr) ∧ 0 ≤ at_ ∧ at_ ≤ 1000000000 + k * 2000000000000) (fun _ v11 _ => l.length - (intOf v11).toNat)
 case atStart => exact ⟨0,start,[],Nat.zero_le _,rfl,rfl,⟨rfl,rfl⟩,⟨h0⟩,⟨KQ.refl _ _ _ _⟩,hs0,by omega⟩
 case round =>
  obtain ⟨k,at_,pre,hk,rfl,rfl,HP,HJ,HB,ha0,ha1⟩ := hrel
  by_cases hlt : k < l.length
  · have hltz : (k : Int) < (l.length : Int) := by omega
    obtain ⟨ad,eA,hx0,hx1,hx2⟩ := Xo (hC _ HB.out.below) (k : Int) (by omega) (by omega)
    cases eA
    simp only [Int.toNat_natCast] at hx0 hx1 hx2;have hBs' := (World.cell?_of_block (a := ⟨Bs,0,none⟩) (w := W) HB.out.one).trans hBs;have hBl' := (World.cell?_of_block (a := ⟨Bl,0,none⟩) (w := W) HB.out.two).trans hBl;have hlt3 := World.block_lt_of_cell? _ _ hBs';have hlt1 := World.block_lt_of_cell? _ _ hBl';have hlt2 := World.block_lt_of_cell? _ _ hx0;have hw0 : n₀ ≤ wr.heap.size := Nat.le_trans hn0 HB.out.below.size
    obtain ⟨t,r,hd⟩ : ∃ t r,l.drop k = t :: r := ⟨_,_,List.drop_eq_getElem_cons hlt⟩
    have ht : Zf l (k : Int) = t := QY hd;rw [ht] at hx0 hx1 hx2;clear ht
    by_cases hlast : k + 1 < l.length
    · have hlastz : (k : Int) + 1 < (l.length : Int) := by omega
      obtain ⟨t2,r2,hr2⟩ : ∃ t2 r2,l.drop (k + 1) = t2 :: r2 := ⟨_,_,List.drop_eq_getElem_cons hlast⟩
      obtain rfl : r = t2 :: r2 := by rw [← hr2,← List.drop_drop,hd];rfl
      obtain ⟨ad2,eA,hy0,hy1,hy2⟩ := Xo (hC _ HB.out.below) ((k : Int) + 1) (by omega) (by omega)
      obtain rfl : ad = ad2 := by injection eA
      clear eA;have ht2 : Zf l ((k : Int) + 1) = t2 := QY (k := k + 1) hr2;rw [ht2] at hy0 hy1 hy2;clear ht2;rw [show ((k : Int) + 1).toNat = k + 1 from by omega] at hy0 hy1 hy2;replace hy0 := QI hy0;replace hy1 := QI hy1;have hm := hok.2.2.2.drop k;rw [hd] at hm;have HD := Zd.mk hd;clear hd;obtain ⟨m0,m1,m2,m3,m4,m5,m6,m7,m8⟩ := hm;obtain ⟨n0,n1,n2,n3⟩ := m8.head
      by_cases hcv : t.f2 = 1
      · have hcr : crvOf t (some t2) = .changing t.f1 t2.f1 (t2.f0 - t.f0) := by simp [crvOf,hcv]
        have m7' := m7 hcv;clear m7;have hfr := XT t.f1 t2.f1 (t2.f0 - t.f0) (t2.f0 - t.f0) (by omega) m7' (by omega) m7' m2 m3 n2 n3;obtain ⟨b0,b1⟩ := Qk t.f1 t2.f1 (t2.f0 - t.f0) (t2.f0 - t.f0) (by omega) (by omega) (by omega) m7' m2 m3 n2 n3;have hst := Yi HP.out HD.out;rw [hcr] at hst;simp only [Crv.frames] at hst;generalize hfv : rnd (2 * (t2.f0 - t.f0) * (t2.f0 - t.f0) * t.f1 + (t2.f1 - t.f1) * (t2.f0 - t.f0) * ((t2.f0 - t.f0) - 1)) (2 * (t2.f0 - t.f0) * 65536) = fv at hfr b0 b1 hst;clear hfv hcr;have HST := Zd.mk hst;clear hst
        have HC := fun w => Lib.hid (X3.calls t.f1 t2.f1 (t2.f0 - t.f0) (t2.f0 - t.f0) fv w hfr)
        clear hfr;have hme := Qj
        gi_wp2_with (fail)
        gi_region
        gi_wp2_with (fail)
        refine ⟨trivial,(callsIn_wide.2 (HC _).out).mono ?_⟩;rintro e w1 ⟨rfl,hb1⟩;have HJ1 := Zd.mk (AbidesFrom.Xv hJ (AbidesFrom.Xv hJ (AbidesFrom.QE hJ (AbidesFrom.QE hJ HJ.out _) _) (Qh (Below.refl _ _))) hb1);obtain ⟨hc,hz⟩ := bcell hb1
        have hw1 : wr.heap.size + 1 + 1 ≤ w1.heap.size := by have := hb1.size;simp at this;omega
        have hB1 : KQ n₀ Bs Bl W w1 := HB.out.then ⟨hw0,hlt3,hlt1⟩ ((((Below.refl _ _).alloc (Nat.le_refl _) _).alloc (by simp) _).drew.trans (hb1.mono (by simp;omega)));have HB1 := Zd.mk hB1;clear hB1 hb1;obtain ⟨fn,tmps,assign,body,hy,hR⟩ := hY pre ⟨.changing t.f1 t2.f1 (t2.f0 - t.f0),t.f0,at_,t2.f0⟩ w1 HJ1.out (by rw [HP.out.1];exact hlt);dsimp only [Prt.val,Crv.val] at hy;have HR := Zd.mk hR;clear hR
        gi_wp2_with (fail)
        refine HR.out.mono ?_;rintro e W3 (⟨rfl,hJ3,hk3⟩ | ⟨rfl,hJx3⟩)
        · gi_wp2
          go_roundw
          case rel => exact ⟨k + 1,_,_,by omega,rfl,by go_num,HST,⟨hJ3⟩,⟨HB1.out.trans hk3⟩,by omega,by omega⟩
          case measure => simp [intOf];omega
        · gi_wp2
          refine bodyPost_ret (results_none rfl _ _ _) rfl ?_;exact ⟨⟨_,rfl⟩,.inr ⟨_,QO HST.out,hJx3⟩⟩
      · have hcr : crvOf t (some t2) = .even t.f1 := by simp [crvOf,hcv]
        have hfr := Qm t.f1 (t2.f0 - t.f0) (by omega) (by omega) m2 m3;obtain ⟨b0,b1⟩ := QS t.f1 (t2.f0 - t.f0) (by omega) (by omega) m2 m3;have hst := Yi HP.out HD.out;rw [hcr] at hst;simp only [Crv.frames] at hst;generalize hfv : rnd ((t2.f0 - t.f0) * t.f1) 65536 = fv at hfr b0 b1 hst;clear hfv hcr;have HST := Zd.mk hst;clear hst
        have HC := fun w => Lib.hid (X9.calls t.f1 (t2.f0 - t.f0) fv w hfr)
        clear hfr;have hme := QK
        gi_wp2_with (fail)
        refine ⟨trivial,(callsIn_wide.2 (HC _).out).mono ?_⟩;rintro e w1 ⟨rfl,hb1⟩;have HJ1 := Zd.mk (AbidesFrom.Xv hJ (AbidesFrom.QE hJ (AbidesFrom.QE hJ HJ.out _) _) hb1);obtain ⟨hc,hz⟩ := bcell hb1
        have hw1 : wr.heap.size + 1 + 1 ≤ w1.heap.size := by have := hb1.size;simp at this;omega
        have hB1 : KQ n₀ Bs Bl W w1 := HB.out.then ⟨hw0,hlt3,hlt1⟩ ((((Below.refl _ _).alloc (Nat.le_refl _) _).alloc (by simp) _).trans (hb1.mono (by simp;omega)));have HB1 := Zd.mk hB1;clear hB1 hb1;obtain ⟨fn,tmps,assign,body,hy,hR⟩ := hY pre ⟨.even t.f1,t.f0,at_,t2.f0⟩ w1 HJ1.out (by rw [HP.out.1];exact hlt);dsimp only [Prt.val,Crv.val] at hy;have HR := Zd.mk hR;clear hR
        gi_wp2_with (fail)
        refine HR.out.mono ?_;rintro e W3 (⟨rfl,hJ3,hk3⟩ | ⟨rfl,hJx3⟩)
        · gi_wp2
          go_roundw
          case rel => exact ⟨k + 1,_,_,by omega,rfl,by go_num,HST,⟨hJ3⟩,⟨HB1.out.trans hk3⟩,by omega,by omega⟩
          case measure => simp [intOf];omega
        · gi_wp2
          refine bodyPost_ret (results_none rfl _ _ _) rfl ?_;exact ⟨⟨_,rfl⟩,.inr ⟨_,QO HST.out,hJx3⟩⟩
    · have hlastz : ¬ ((k : Int) + 1 < (l.length : Int)) := by omega
      obtain ⟨W1,hW1⟩ : ∃ W1,W1 = (wr.alloc (.cells #[.int .i64 t.f0,.int .i64 t.f1,.int .i64 t.f2] 27)).alloc (.cells #[.iface 104 (.agg #[.int .i64 t.f1]),.int .i64 t.f0,.int .i64 at_,.int .i64 (-1)] 66) := ⟨_,rfl⟩
      have hJ1 : J pre W1 := by
       rw [hW1];exact (AbidesFrom.QE hJ (AbidesFrom.QE hJ HJ.out _) _)
      have hB1 : KQ n₀ Bs Bl W W1 := by rw [hW1];exact HB.out.then ⟨hw0,hlt3,hlt1⟩ (((Below.refl _ _).alloc (Nat.le_refl _) _).alloc (by simp) _)
      obtain ⟨fn,tmps,assign,body,hy,hR⟩ := hY pre ⟨.even t.f1,t.f0,at_,-1⟩ W1 hJ1 (by rw [HP.out.1];exact hlt);dsimp only [Prt.val,Crv.val] at hy;rw [hW1] at hy hR;have HR := Zd.mk hR;clear hR
      gi_wp2
      refine HR.out.mono ?_;have HW1 := Zd.mk hW1;clear hW1;rintro e W3 (⟨rfl,hJ3,hk3⟩ | ⟨rfl,hJx3⟩)
      · gi_wp2
        go_roundw
        case rel => exact ⟨k + 1,at_,_,by omega,rfl,by go_num,⟨Ys HP.out hd hlast⟩,⟨hJ3⟩,⟨by rw [HW1.out] at hB1;exact hB1.trans hk3⟩,ha0,by omega⟩
        case measure => simp [intOf];omega
      · gi_wp2
        refine bodyPost_ret (results_none rfl _ _ _) rfl ?_;exact ⟨⟨_,rfl⟩,.inr ⟨_,QO (Ys HP.out hd hlast),hJx3⟩⟩
  · gi_wp2
    go_end0;refine ⟨⟨_,rfl⟩,.inl ⟨pre,?_,HJ.out⟩⟩;rw [HP.out.2,List.drop_eq_nil_of_le (by omega)];simp [prts]
end Go.Proofs.Ytomlfbmfdoallaa.PA

set_option linter.unusedVariables false
namespace Go.Proofs.Ytomlfbmfdoallaa
open Go.RowKit
def Blk (W : World) (b : Nat) (cs : Array Value) (t : TypeId) : Prop := W.heap[b]? = some (.cells cs t (0,0))
section
variable {W W' : World} {b : Nat} {cs : Array Value} {t : TypeId}
theorem Blk.lt (h : Blk W b cs t) : b < W.heap.size := (Array.getElem?_eq_some_iff.1 h).1
theorem Blk.cell (h : Blk W b cs t) (j : Nat) {v : Value} (hv : cs[j]? = some v) : W.cell? ⟨b,j,none⟩ = some v := by
 unfold Blk at h;simp [World.cell?,h,hv]
theorem Blk.frozen (h : Blk W b cs t) (j : Nat) : W.frozen? ⟨b,j,none⟩ = false := by
 unfold Blk at h;simp [World.frozen?,h]
theorem Blk.same (h : Blk W b cs t) (e : W'.heap[b]? = W.heap[b]?) : Blk W' b cs t := by unfold Blk at *;rw [e];exact h
theorem Blk.below (h : Blk W b cs t) {B : Nat} (hb : Below B W W') (hlt : b < B) : Blk W' b cs t := h.same (hb.block b hlt)
theorem Blk.Xv (h : Blk W b cs t) (hb : Below W.heap.size W W') : Blk W' b cs t := h.same (hb.block b h.lt)
theorem Blk.alloc (h : Blk W b cs t) (o : Obj) : Blk (W.alloc o) b cs t := h.same (Below.heap_alloc W o b h.lt)
theorem Blk.drew (h : Blk W b cs t) : Blk W.drew b cs t := h
theorem Blk.drewN (h : Blk W b cs t) (n : Nat) : Blk (W.drewN n) b cs t := h
theorem Blk.new (W : World) (cs : Array Value) (t : TypeId) : Blk (W.alloc (.cells cs t)) W.heap.size cs t := World.alloc_heap_new W _
theorem Blk.other (h : Blk W b cs t) {a : Addr} (u : Value) (hne : b ≠ a.block) : Blk (W.setCell a u) b cs t := h.same (Below.heap_setCell W a u b hne)
theorem Blk.set (h : Blk W b cs t) (j : Nat) (u : Value) : Blk (W.setCell ⟨b,j,none⟩ u) b (cs.setIfInBounds j u) t := by
 unfold Blk at *
 simp [World.setCell,Array.getElem?_modify,h]
theorem Blk.kept (h : Blk W b cs t) {row : Option Nat} (hg : W.grownBy W' row) (hr : ∀ r,row = some r → ∃ o : Obj,W.heap[r]? = some o ∧ o.isCells = false) : Blk W' b cs t := by
 refine h.same (hg.block b h.lt ?_);intro e;obtain ⟨o,ho,hc⟩ := hr b e.symm;unfold Blk at h;rw [h] at ho
 cases ho
 simp [Obj.isCells] at hc
theorem Blk.put (h : Blk W b cs t) {l : Nat} {o o' : Obj} (hl : W.heap[l]? = some o) (ho : o.isCells = false) : Blk (W.putObj l o') b cs t :=
 h.kept (grownBy_putObj' W l o') (fun r e => by cases e;exact ⟨o,hl,ho⟩)
end
end Go.Proofs.Ytomlfbmfdoallaa

namespace Go.Proofs.Ytomlfbmfdoallaa.PA
open Go.RowKit Go.Shelf Go.Proofs.YtomlfbmfdoallaaW.PrintWords Go.Proofs.YtomlfbmfdoallaaW.PrintLast Go.Proofs.YtomlfbmfdoallaaW.PrintMore
set_option linter.unusedVariables false
set_option linter.unusedSimpArgs false
attribute [local go_sem] Oper.semAt_some
theorem parts_stops (n : Nat) (hn : 3 ≤ n) (Bs Bl m c : Nat) (A : Option Addr) (l : List S27) (start : Int) (hok : MapOk l) (hs0 : 0 ≤ start) (hs1 : start ≤ 1000000000) (w : World) (hm : m ≤ w.heap.size)
 (hBs : w.cell? ⟨Bs,0,none⟩ = some (.int .i64 start)) (hBl : w.cell? ⟨Bl,0,none⟩ = some (.slice A l.length c)) (hC : ∀ W',Below m w W' → Kd.C k27 W' A l.length l) :
 SeqStopsK Fence.wide n Try.prog 79 #[.pointer (some ⟨Bs,0,none⟩),.pointer (some ⟨Bl,0,none⟩)] (fun x : Prt => #[x.val]) (KQ m Bs Bl) (· = prts start l) (· <+: prts start l) l.length w := by
 intro lp J Jx W hb hJ hJx hY h0;have h1 := World.block_lt_of_cell? _ _ hBs;have h2 := World.block_lt_of_cell? _ _ hBl;exact parts1_in n hn lp Bs Bl m c A l start hok hs0 hs1 J Jx hY W hJ (Nat.le_trans hm hb.size) ((hb.cell (p := ⟨Bs,0,none⟩) h1).trans hBs) ((hb.cell (p := ⟨Bl,0,none⟩) h2).trans hBl) (fun W' h => hC W' ((hb.mono hm).trans h)) h0
theorem parts_calls (A : Option Addr) (n c : Nat) (start : Int) (w : World) : Calls Try.prog 68 #[.slice A n c,.int .i64 start] w fun e w' =>
 e = .returned (.func (.func 79) #[] #[.pointer (some ⟨w.heap.size + 1,0,none⟩),.pointer (some ⟨w.heap.size,0,none⟩)]) ∧ (w.alloc (.cells #[.slice A n c] 22)).alloc (.cells #[.int .i64 start] 3) = w' := by
 have hmf : ∀ (fn : Fn) (first cap : Array Value) (w : World),(Instr.makeFunc fn first cap).run Try.prog w = .ok (.func fn first cap) w := fun _ _ _ _ => rfl
 go_enter Try.func68,Try.ntmps68
 go_wp2
 go_ret;exact ⟨rfl,rfl⟩
theorem KQ.set {m b1 b2 : Nat} {A W : World} (h : KQ m b1 b2 A W) {a : Addr} (u : Value) (hm : m ≤ a.block) (h1 : b1 ≠ a.block) (h2 : b2 ≠ a.block) : KQ m b1 b2 A (W.setCell a u) :=
 ⟨h.below.setCell hm u,(Below.heap_setCell _ _ _ _ h1).trans h.one,(Below.heap_setCell _ _ _ _ h2).trans h.two⟩
theorem set4 (W : World) (b : Nat) (cs : Array Value) (t : TypeId) (v0 v1 v2 v3 : Value) (h : Blk W b cs t) (h4 : cs.size = 4) :
 Blk ((((W.setCell ⟨b,0,none⟩ v0).setCell ⟨b,1,none⟩ v1).setCell ⟨b,2,none⟩ v2).setCell ⟨b,3,none⟩ v3) b #[v0,v1,v2,v3] t := by
 have := (((h.set 0 v0).set 1 v1).set 2 v2).set 3 v3;obtain ⟨l⟩ := cs
 match l,h4 with
 | [a,b,c,d],_ => exact this
def pick (tick : Int) (l : List Prt) : Option Prt := (l.takeWhile (fun p => decide (p.tick ≤ tick))).getLast?
def prtCells : Option Prt → Array Value
 | none => #[.nilIface,.int .i64 0,.int .i64 0,.int .i64 0]
 | some x => #[x.c.val,.int .i64 x.tick,.int .i64 x.frame,.int .i64 x.fin]
theorem pick_all {tick : Int} {l : List Prt} (h : ∀ p ∈ l,p.tick ≤ tick) : pick tick l = l.getLast? := by
 unfold pick
 congr 1
 have := List.takeWhile_append_of_pos (l₂ := []) (p := fun p : Prt => decide (p.tick ≤ tick)) (l₁ := l) (by simpa using h)
 simpa using this
theorem pick_stop {tick : Int} {l pre rest : List Prt} {x : Prt} (hp : (pre ++ [x]) ++ rest = l) (h : ∀ p ∈ pre,p.tick ≤ tick) (hx : tick < x.tick) : pick tick l = pre.getLast? := by
 unfold pick;subst hp;rw [List.append_assoc,List.takeWhile_append_of_pos (by simpa using h)];simp [List.takeWhile_cons,show ¬ x.tick ≤ tick by omega]
theorem Yt (w W : World) (D : Nat) (v0 v1 v2 v3 : Value) (tmps pk : Array Value) (i1 : Blk W (w.heap.size + 1) (prtCells none) 66) (h6 : tmps.getD 6 undef = .pointer (some ⟨w.heap.size + 1,0,none⟩)) (hD : w.heap.size + 1 < D)
 (hK : W.heap[D]? = some (.deferred (some []))) (hB : Below w.heap.size w W) (hp : pk = #[v0,v1,v2,v3]) :
 bodyPostM Fence.wide 10 Try.prog Try.f41 (fun e w' => e = Ending.returned (Value.agg pk) ∧ Below w.heap.size w w') Exit.ret { tmps := tmps,defers := [{ target := Target.collected D,args := #[] }] }
  ((((W.setCell ⟨w.heap.size + 1,0,none⟩ v0).setCell ⟨w.heap.size + 1,1,none⟩ v1).setCell ⟨w.heap.size + 1,2,none⟩ v2).setCell ⟨w.heap.size + 1,3,none⟩ v3) := by
 subst hp;have hs := set4 W _ _ _ v0 v1 v2 v3 i1 rfl
 have hb : Below w.heap.size w ((((W.setCell ⟨w.heap.size + 1,0,none⟩ v0).setCell ⟨w.heap.size + 1,1,none⟩ v1).setCell ⟨w.heap.size + 1,2,none⟩ v2).setCell ⟨w.heap.size + 1,3,none⟩ v3) :=
  (((hB.setCell (by show _ ≤ w.heap.size + 1;omega) _).setCell (by show _ ≤ w.heap.size + 1;omega) _).setCell (by show _ ≤ w.heap.size + 1;omega) _).setCell (by show _ ≤ w.heap.size + 1;omega) _
 have hK' := ((((KeepsOthers.setCell W ⟨w.heap.size + 1,0,none⟩ v0).trans (KeepsOthers.setCell _ ⟨w.heap.size + 1,1,none⟩ v1)).trans (KeepsOthers.setCell _ ⟨w.heap.size + 1,2,none⟩ v2)).trans (KeepsOthers.setCell _ ⟨w.heap.size + 1,3,none⟩ v3)).same D _ hK rfl;generalize ((((W.setCell ⟨w.heap.size + 1,0,none⟩ v0).setCell ⟨w.heap.size + 1,1,none⟩ v1).setCell ⟨w.heap.size + 1,2,none⟩ v2).setCell ⟨w.heap.size + 1,3,none⟩ v3) = W4 at hs hb hK' ⊢;refine ⟨by simp,.inl ⟨_,_,rfl,run_takeDeferred hK',?_⟩⟩;have hs2 := hs.put (o' := .deferred none) hK' rfl;have g0 := hs2.cell 0 (v := v0) rfl;have g1 := hs2.cell 1 (v := v1) rfl;have g2 := hs2.cell 2 (v := v2) rfl;have g3 := hs2.cell 3 (v := v3) rfl;refine ⟨.agg #[v0,v1,v2,v3],?_,rfl,hb.trans (belowK_b (w := w) (Nat.le_refl _) W4 D _ _ (by omega) hK' rfl rfl)⟩
 have h6' : tmps[6]?.getD undef = .pointer (some ⟨w.heap.size + 1,0,none⟩) := by simpa using h6
 simp [results,Try.f41,go_sem,h6',g0,g1,g2,g3]
set_option maxRecDepth 100000 in
set_option maxHeartbeats 2000000 in
theorem Y9 (A : Option Addr) (c : Nat) (l : List S27) (start tick : Int) (w : World) (hok : MapOk l) (hs0 : 0 ≤ start) (hs1 : start ≤ 1000000000) (hr : Kd.C k27 w A l.length l) :
 Calls Try.prog 41 #[.slice A l.length c,.int .i64 start,.int .i64 tick] w fun e w' => e = .returned (.agg (prtCells (pick tick (prts start l)))) ∧ Below w.heap.size w w' := by
 refine (callsIn_wide (n := 10)).1 ?_;refine callsIn_of_wp_marks Try.func41 rfl trivial ?_ rfl;simp only [Try.ntmps41,List.size_toArray,List.length_cons,List.length_nil,Nat.reduceAdd,Nat.reduceSub,Array.replicate_succ,Array.replicate_zero,List.push_toArray,List.append_toArray,List.nil_append,List.cons_append]
 gi_wp2_with (fail)
 refine ⟨trivial,(callsIn_wide.2 (parts_calls _ _ _ _ _)).mono ?_⟩;rintro e w' ⟨rfl,hw⟩
 gi_wp2_with (fail)
 obtain ⟨W0,hW0⟩ : ∃ W0,W0 = ((w.alloc (.cells #[.int .i64 tick] 3)).alloc (.cells #[.nilIface,.int .i64 0,.int .i64 0,.int .i64 0] 66)).alloc (.cells #[.nilIface,.int .i64 0,.int .i64 0,.int .i64 0] 66) := ⟨_,rfl⟩
 have hz0 : W0.heap.size = w.heap.size + 1 + 1 + 1 := by rw [hW0];simp
 have hb0 : Below w.heap.size w W0 := by rw [hW0];exact (((Below.refl _ w).alloc (Nat.le_refl _) _).alloc (by simp) _).alloc (by simp;omega) _
 have k0 : Blk W0 w.heap.size #[.int .i64 tick] 3 := by rw [hW0];exact ((Blk.new w _ _).alloc _).alloc _
 have k1 : Blk W0 (w.heap.size + 1) (prtCells none) 66 := by rw [hW0];have := (Blk.new (w.alloc (.cells #[.int .i64 tick] 3)) (prtCells none) 66).alloc (.cells (prtCells none) 66);rw [World.size_alloc] at this;exact this
 have k2 : Blk W0 (w.heap.size + 1 + 1) (prtCells none) 66 := by rw [hW0];have := Blk.new ((w.alloc (.cells #[.int .i64 tick] 3)).alloc (.cells (prtCells none) 66)) (prtCells none) 66;rw [World.size_alloc,World.size_alloc] at this;exact this
 rw [← hW0] at hw;clear hW0
 have k3 : Blk w' (w.heap.size + 1 + 1 + 1) #[.slice A l.length c] 22 := by rw [← hw,← hz0];exact (Blk.new W0 _ _).alloc _
 have k4 : Blk w' (w.heap.size + 1 + 1 + 1 + 1) #[.int .i64 start] 3 := by
  rw [← hw,← hz0];have := Blk.new (W0.alloc (.cells #[.slice A l.length c] 22)) #[.int .i64 start] 3;rw [World.size_alloc] at this;exact this
 have hz1 : w'.heap.size = w.heap.size + 1 + 1 + 1 + 1 + 1 := by rw [← hw,World.size_alloc,World.size_alloc,hz0]
 replace hb0 : Below w.heap.size w w' := by rw [← hw];exact (hb0.alloc (by omega) _).alloc (by simp;omega) _
 replace k0 : Blk w' w.heap.size #[.int .i64 tick] 3 := by rw [← hw];exact (k0.alloc _).alloc _
 replace k1 : Blk w' (w.heap.size + 1) (prtCells none) 66 := by rw [← hw];exact (k1.alloc _).alloc _
 replace k2 : Blk w' (w.heap.size + 1 + 1) (prtCells none) 66 := by rw [← hw];exact (k2.alloc _).alloc _
 clear hw hz0
 refine wpIn_rangeFunc_ownH (α := Prt) rfl (by omega) (gf := 79) (lb := #[.pointer (some ⟨w.heap.size + 1 + 1 + 1 + 1,0,none⟩),.pointer (some ⟨w.heap.size + 1 + 1 + 1,0,none⟩)]) rfl trivial enters79
  (parts_stops 9 (by omega) (w.heap.size + 1 + 1 + 1 + 1) (w.heap.size + 1 + 1 + 1) w.heap.size c A l start hok hs0 hs1 w' hb0.size (k4.cell 0 rfl) (k3.cell 0 rfl) (fun W' h => Kd.ZK hr (hb0.trans h)))
  (fun h k => h.trans k) (fun W lp o o' hl ho _ _ => KQ.putObj o' (by omega) (by omega) (by omega) (Array.getElem?_eq_some_iff.1 ho).1) (Below.refl _ _) (fun _ => rfl)
  (fun pre W => (Blk W w.heap.size #[.int .i64 tick] 3 ∧ Blk W (w.heap.size + 1) (prtCells none) 66 ∧ Blk W (w.heap.size + 1 + 1) (prtCells pre.getLast?) 66 ∧ (∀ p ∈ pre,p.tick ≤ tick) ∧ w'.heap.size ≤ W.heap.size) ∧ Below w.heap.size w W)
  (fun cd pre W => (cd = .exit 0 ∧ ∃ pre' x,pre = pre' ++ [x] ∧ (∀ p ∈ pre',p.tick ≤ tick) ∧ tick < x.tick ∧ Blk W (w.heap.size + 1) (prtCells none) 66 ∧ Blk W (w.heap.size + 1 + 1) (prtCells pre'.getLast?) 66) ∧ Below w.heap.size w W)
  (OwnFrom.and (Own.from (fun s A B row hs hg hr => ⟨hs.1.kept hg hr,hs.2.1.kept hg hr,hs.2.2.1.kept hg hr,hs.2.2.2.1,Nat.le_trans hs.2.2.2.2 hg.size⟩) _) (ownFrom_below (Nat.le_refl _) (by omega)))
  (fun cd => OwnFrom.and (Own.from (fun s A B row hs hg hr => by obtain ⟨h1,p,x,h2,h3,h4,h5,h6⟩ := hs;exact ⟨h1,p,x,h2,h3,h4,h5.kept hg hr,h6.kept hg hr⟩) _) (ownFrom_below (Nat.le_refl _) (by omega)))
  ⟨⟨k0,k1,k2,by simp,Nat.le_refl _⟩,hb0⟩
  (fun x a' W => ∃ Bx,w'.heap.size ≤ Bx ∧ Blk W Bx (prtCells (some x)) 66 ∧ a' = { tmps := #[.slice A l.length c,.int .i64 start,.int .i64 tick,undef,undef,.pointer (some ⟨w.heap.size,0,none⟩),.pointer (some ⟨w.heap.size + 1,0,none⟩),.pointer (some ⟨w.heap.size + 1 + 1,0,none⟩),.pointer (some ⟨Bx,0,none⟩),.slice A l.length c,.int .i64 start,.func (.func 79) #[] #[.pointer (some ⟨w.heap.size + 1 + 1 + 1 + 1,0,none⟩),.pointer (some ⟨w.heap.size + 1 + 1 + 1,0,none⟩)],x.val,undef,undef,undef,undef,undef,undef],defers := [] })
  (fun x a' => Own.from (fun s A B row hs hg hr => by obtain ⟨Bx,h1,h2,h3⟩ := hs;exact ⟨Bx,h1,h2.kept hg hr,h3⟩) _)
  ?assign ?body ?done ?stop
 case assign =>
  rintro lp pre x W K ⟨⟨i0,i1,i2,i3,hsize⟩,hB⟩ hK;have hsz : w'.heap.size ≤ W.heap.size := hsize;have HK := Zd.mk hK;clear hK;obtain ⟨c0,t0,f0,e0⟩ := x;dsimp only [Prt.val]
  cases c0
  all_goals
   dsimp only [Crv.val]
   gi_wp2
   refine HK.out _ _ ((KeepsOthers.alloc _ _).from _) (KQ.then (KQ.refl _ _ _ _) ⟨hB.size,by omega,by omega⟩ ((Below.refl _ _).alloc (Nat.le_refl _) _)) ⟨⟨i0.alloc _,i1.alloc _,i2.alloc _,i3,by simp;omega⟩,hB.alloc hB.size _⟩ ⟨W.heap.size,hsz,Blk.new _ _ _,rfl⟩
 case body =>
  rintro lp pre x a' W hl hr' ⟨⟨i0,i1,i2,i3,hsize⟩,hB⟩ ⟨Bx,hBx,kx,rfl⟩ hlen;have hlt := kx.lt;obtain ⟨c0,t0,f0,e0⟩ := x;have s0 : W.cell? ⟨w.heap.size,0,none⟩ = some (.int .i64 tick) := i0.cell 0 rfl;have s1 : W.cell? ⟨Bx,0,none⟩ = some c0.val := kx.cell 0 rfl;have s2 : W.cell? ⟨Bx,1,none⟩ = some (.int .i64 t0) := kx.cell 1 rfl;have s3 : W.cell? ⟨Bx,2,none⟩ = some (.int .i64 f0) := kx.cell 2 rfl;have s4 : W.cell? ⟨Bx,3,none⟩ = some (.int .i64 e0) := kx.cell 3 rfl
  obtain ⟨o0,q0⟩ : ∃ v,W.cell? ⟨w.heap.size + 1 + 1,0,none⟩ = some v := by cases hh : pre.getLast? <;> exact ⟨_,by rw [hh] at i2;exact i2.cell 0 rfl⟩
  obtain ⟨o1,q1⟩ : ∃ v,W.cell? ⟨w.heap.size + 1 + 1,1,none⟩ = some v := by cases hh : pre.getLast? <;> exact ⟨_,by rw [hh] at i2;exact i2.cell 1 rfl⟩
  obtain ⟨o2,q2⟩ : ∃ v,W.cell? ⟨w.heap.size + 1 + 1,2,none⟩ = some v := by cases hh : pre.getLast? <;> exact ⟨_,by rw [hh] at i2;exact i2.cell 2 rfl⟩
  obtain ⟨o3,q3⟩ : ∃ v,W.cell? ⟨w.heap.size + 1 + 1,3,none⟩ = some v := by cases hh : pre.getLast? <;> exact ⟨_,by rw [hh] at i2;exact i2.cell 3 rfl⟩
  have z0 := i2.frozen 0;have z1 := i2.frozen 1;have z2 := i2.frozen 2;have z3 := i2.frozen 3
  by_cases hgt : tick < t0
  · gi_wp2
    exact ⟨KeepsFrom.refl _ _,⟨rfl,pre,_,rfl,i3,hgt,i1,i2⟩,hB⟩
  · cases c0
    all_goals
     dsimp only [Crv.val] at s1
     gi_wp2
     refine ⟨((((KeepsOthers.setCell _ _ _).trans (KeepsOthers.setCell _ _ _)).trans (KeepsOthers.setCell _ _ _)).trans (KeepsOthers.setCell _ _ _)).from _,
      ((((KQ.refl _ _ _ W).set _ ?_ ?_ ?_).set _ ?_ ?_ ?_).set _ ?_ ?_ ?_).set _ ?_ ?_ ?_,
      ⟨(((i0.other _ ?_).other _ ?_).other _ ?_).other _ ?_,(((i1.other _ ?_).other _ ?_).other _ ?_).other _ ?_,?_,?_,?_⟩,
      (((hB.setCell ?_ _).setCell ?_ _).setCell ?_ _).setCell ?_ _⟩
     all_goals first
      | (show _ ≤ _;simp;omega)
      | (show _ ≠ _;simp;omega)
      | (show _ ≠ _;simp;done)
      | (rw [List.getLast?_concat];exact set4 _ _ _ _ _ _ _ _ i2 (by cases pre.getLast? <;> rfl))
      | (intro p hp;rcases List.mem_append.1 hp with hp | hp;exact i3 p hp;rw [List.mem_singleton.1 hp];simp;omega)
      | (simp [World.setCell];omega)
 case done =>
  rintro D ys W hD rfl ⟨⟨i0,i1,i2,i3,hsize⟩,hB⟩ hK;have HP := Zd.mk (pick_all i3);have z0 := i1.frozen 0;have z1 := i1.frozen 1;have z2 := i1.frozen 2;have z3 := i1.frozen 3;have r0 : W.cell? ⟨w.heap.size + 1,0,none⟩ = some .nilIface := i1.cell 0 rfl;have r1 : W.cell? ⟨w.heap.size + 1,1,none⟩ = some (.int .i64 0) := i1.cell 1 rfl;have r2 : W.cell? ⟨w.heap.size + 1,2,none⟩ = some (.int .i64 0) := i1.cell 2 rfl;have r3 : W.cell? ⟨w.heap.size + 1,3,none⟩ = some (.int .i64 0) := i1.cell 3 rfl;have HK := Zd.mk hK;clear hK;generalize HO : (prts start l).getLast? = o at i2 HP;have HHO := Zd.mk HO;clear HO
  rcases o with _ | ⟨c0,t0,f0,e0⟩
  · have q0 : W.cell? ⟨w.heap.size + 1 + 1,0,none⟩ = some .nilIface := i2.cell 0 rfl
    have q1 : W.cell? ⟨w.heap.size + 1 + 1,1,none⟩ = some (.int .i64 0) := i2.cell 1 rfl;have q2 : W.cell? ⟨w.heap.size + 1 + 1,2,none⟩ = some (.int .i64 0) := i2.cell 2 rfl;have q3 : W.cell? ⟨w.heap.size + 1 + 1,3,none⟩ = some (.int .i64 0) := i2.cell 3 rfl
    gi_wp2
    exact Yt w W D _ _ _ _ _ _ i1 rfl (by omega) HK.out hB (by rw [HP.out];rfl)
  · have q0 : W.cell? ⟨w.heap.size + 1 + 1,0,none⟩ = some c0.val := i2.cell 0 rfl
    have q1 : W.cell? ⟨w.heap.size + 1 + 1,1,none⟩ = some (.int .i64 t0) := i2.cell 1 rfl;have q2 : W.cell? ⟨w.heap.size + 1 + 1,2,none⟩ = some (.int .i64 f0) := i2.cell 2 rfl;have q3 : W.cell? ⟨w.heap.size + 1 + 1,3,none⟩ = some (.int .i64 e0) := i2.cell 3 rfl
    cases c0
    all_goals
     dsimp only [Crv.val] at q0
     gi_wp2
     exact Yt w W D _ _ _ _ _ _ i1 rfl (by omega) HK.out hB (by rw [HP.out];rfl)
 case stop =>
  rintro D cd pre W hD hpre ⟨⟨rfl,pre',x,rfl,i3,hx,i1,i2⟩,hB⟩ hK;obtain ⟨rest,hrest⟩ := hpre;have HP := Zd.mk (pick_stop hrest i3 hx);clear hrest;have z0 := i1.frozen 0;have z1 := i1.frozen 1;have z2 := i1.frozen 2;have z3 := i1.frozen 3;have r0 : W.cell? ⟨w.heap.size + 1,0,none⟩ = some .nilIface := i1.cell 0 rfl;have r1 : W.cell? ⟨w.heap.size + 1,1,none⟩ = some (.int .i64 0) := i1.cell 1 rfl;have r2 : W.cell? ⟨w.heap.size + 1,2,none⟩ = some (.int .i64 0) := i1.cell 2 rfl;have r3 : W.cell? ⟨w.heap.size + 1,3,none⟩ = some (.int .i64 0) := i1.cell 3 rfl;have HK := Zd.mk hK;clear hK;generalize HO : pre'.getLast? = o at i2 HP;have HHO := Zd.mk HO;clear HO
  rcases o with _ | ⟨c0,t0,f0,e0⟩
  · have q0 : W.cell? ⟨w.heap.size + 1 + 1,0,none⟩ = some .nilIface := i2.cell 0 rfl
    have q1 : W.cell? ⟨w.heap.size + 1 + 1,1,none⟩ = some (.int .i64 0) := i2.cell 1 rfl;have q2 : W.cell? ⟨w.heap.size + 1 + 1,2,none⟩ = some (.int .i64 0) := i2.cell 2 rfl;have q3 : W.cell? ⟨w.heap.size + 1 + 1,3,none⟩ = some (.int .i64 0) := i2.cell 3 rfl
    gi_wp2
    exact Yt w W D _ _ _ _ _ _ i1 rfl (by omega) HK.out hB (by rw [HP.out];rfl)
  · have q0 : W.cell? ⟨w.heap.size + 1 + 1,0,none⟩ = some c0.val := i2.cell 0 rfl
    have q1 : W.cell? ⟨w.heap.size + 1 + 1,1,none⟩ = some (.int .i64 t0) := i2.cell 1 rfl;have q2 : W.cell? ⟨w.heap.size + 1 + 1,2,none⟩ = some (.int .i64 f0) := i2.cell 2 rfl;have q3 : W.cell? ⟨w.heap.size + 1 + 1,3,none⟩ = some (.int .i64 e0) := i2.cell 3 rfl
    cases c0
    all_goals
     dsimp only [Crv.val] at q0
     gi_wp2
     exact Yt w W D _ _ _ _ _ _ i1 rfl (by omega) HK.out hB (by rw [HP.out];rfl)
end Go.Proofs.Ytomlfbmfdoallaa.PA

namespace Go.Proofs.Ytomlfbmfdoallaa.PA
open Go.RowKit Go.Shelf Go.Proofs.YtomlfbmfdoallaaW.PrintWords Go.Proofs.YtomlfbmfdoallaaW.PrintLast Go.Proofs.YtomlfbmfdoallaaW.PrintMore
set_option linter.unusedVariables false
set_option linter.unusedSimpArgs false
def fr : List S27 → Int → Int → Int
 | [],s,_ => s
 | [t],s,k => s + (Crv.even t.f1).frames (k - t.f0)
 | t :: t2 :: r,s,k => if t2.f0 ≤ k then fr (t2 :: r) (s + (crvOf t (some t2)).frames (t2.f0 - t.f0)) k else s + (crvOf t (some t2)).frames (k - t.f0)
def per : List S27 → Int → Int
 | [],_ => 0
 | [t],_ => t.f1
 | t :: t2 :: r,k => if t2.f0 ≤ k then per (t2 :: r) k else (crvOf t (some t2)).period (k - t.f0)
def Crv.Ok : Crv → Int → Prop
 | .even p,n => 1 ≤ p ∧ p ≤ 67108864 ∧ 0 ≤ n ∧ n ≤ 1000000000
 | .changing p q l,n => 1 ≤ p ∧ p ≤ 67108864 ∧ 1 ≤ q ∧ q ≤ 67108864 ∧ 1 ≤ l ∧ l ≤ 10000 ∧ 0 ≤ n ∧ n ≤ l
theorem Crv.Ok.bound {c : Crv} {n : Int} (h : c.Ok n) : 0 ≤ c.frames n ∧ c.frames n ≤ 1024000000001 := by
 cases c with
 | even p => obtain ⟨h1,h2,h3,h4⟩ := h;exact QS p n h3 h4 h1 h2
 | changing p q l => obtain ⟨h1,h2,h3,h4,h5,h6,h7,h8⟩ := h;exact Qk p q l n h7 h8 h5 h6 h1 h2 h3 h4
theorem YS {t t2 : S27} {r : List S27} (h : MapFrom (t :: t2 :: r)) {n : Int} (h0 : 0 ≤ n) (h1 : n ≤ t2.f0 - t.f0) : (crvOf t (some t2)).Ok n := by
 obtain ⟨m0,m1,m2,m3,m4,m5,m6,m7,m8⟩ := h;obtain ⟨n0,n1,n2,n3⟩ := m8.head
 by_cases hc : t.f2 = 1
 · have := m7 hc
   simp only [crvOf,hc,if_true];exact ⟨m2,m3,n2,n3,by omega,this,h0,h1⟩
 · simp only [crvOf,hc,if_false]
   exact ⟨m2,m3,h0,by omega⟩
theorem pick_cons_pos {tick : Int} {x : Prt} {l : List Prt} (h : x.tick ≤ tick) : pick tick (x :: l) = some ((pick tick l).getD x) := by
 unfold pick;rw [List.takeWhile_cons_of_pos (by simpa using h)];rw [List.getLast?_cons]
theorem QF (tick : Int) (htick : tick ≤ 1000000000) : ∀ (l : List S27) (s : Int),MapFrom l → l ≠ [] → (∀ t,l.head? = some t → t.f0 ≤ tick) →
 ∃ x,pick tick (prts s l) = some x ∧ x.frame + x.c.frames (tick - x.tick) = fr l s tick ∧ x.c.period (tick - x.tick) = per l tick ∧ x.c.Ok (tick - x.tick) ∧ 0 ≤ x.tick ∧ x.tick ≤ tick ∧ s ≤ x.frame ∧ x.frame ≤ s + (l.length : Int) * 1024000000001
 | [],_,_,h,_ => absurd rfl h
 | [t],s,hm,_,hh => by
  have ht := hh t rfl;obtain ⟨m0,m1,m2,m3,m4⟩ := hm;refine ⟨⟨.even t.f1,t.f0,s,-1⟩,?_,rfl,rfl,⟨m2,m3,by show 0 ≤ tick - t.f0;omega,by show tick - t.f0 ≤ _;omega⟩,m0,ht,Int.le_refl _,by show s ≤ _;simp;omega⟩;simp [prts,crvOf,pick,List.takeWhile_cons,ht]
 | t :: t2 :: r,s,hm,_,hh => by
  have ht := hh t rfl;have hm0 := hm;obtain ⟨m0,m1,m2,m3,m4,m5,m6,m7,m8⟩ := hm;have hb := (YS hm0 (n := t2.f0 - t.f0) (by omega) (by omega)).bound;have e : prts s (t :: t2 :: r) = ⟨crvOf t (some t2),t.f0,s,t2.f0⟩ :: prts (s + (crvOf t (some t2)).frames (t2.f0 - t.f0)) (t2 :: r) := rfl;rw [e,pick_cons_pos (by exact ht)]
  by_cases hk : t2.f0 ≤ tick
  · obtain ⟨x,h1,h2,h3,h4,h5,h6,h7,h8⟩ := QF tick htick (t2 :: r) (s + (crvOf t (some t2)).frames (t2.f0 - t.f0)) m8 (by simp) (fun t' e => by cases e;exact hk)
    refine ⟨x,by rw [h1];rfl,by rw [h2];simp [fr,hk],by rw [h3];simp [per,hk],h4,h5,h6,by omega,?_⟩;simp only [List.length_cons] at h8 ⊢;omega
  · have hn : pick tick (prts (s + (crvOf t (some t2)).frames (t2.f0 - t.f0)) (t2 :: r)) = none := by
     cases r <;> simp [prts,pick,List.takeWhile_cons,hk]
    refine ⟨_,by rw [hn],by simp [fr,hk],by simp [per,hk],YS hm0 (by show 0 ≤ tick - t.f0;omega) (by show tick - t.f0 ≤ _;omega),m0,ht,Int.le_refl _,by show s ≤ _;simp only [List.length_cons];omega⟩
def mapFromB : List S27 → Bool
 | [] => true
 | [t] => decide (0 ≤ t.f0) && decide (t.f0 ≤ 1000000000) && decide (1 ≤ t.f1) && decide (t.f1 ≤ 67108864) && decide (t.f2 = 0)
 | t :: t2 :: r => decide (0 ≤ t.f0) && decide (t.f0 ≤ 1000000000) && decide (1 ≤ t.f1) && decide (t.f1 ≤ 67108864) && decide (0 ≤ t.f2) && decide (t.f2 ≤ 1) && decide (t.f0 < t2.f0) && (decide (t.f2 ≠ 1) || decide (t2.f0 - t.f0 ≤ 10000)) && mapFromB (t2 :: r)
def mapOkB (l : List S27) : Bool := decide (1 ≤ l.length) && decide (l.length ≤ 50) && (match l.head? with | none => true | some t => decide (t.f0 = 0)) && mapFromB l
theorem QA : ∀ l,mapFromB l = true ↔ MapFrom l
 | [] => by simp [mapFromB,MapFrom]
 | [t] => by simp [mapFromB,MapFrom,and_assoc]
 | t :: t2 :: r => by
  simp only [mapFromB,MapFrom,Bool.and_eq_true,decide_eq_true_eq,Bool.or_eq_true,QA (t2 :: r),and_assoc];constructor
  · rintro ⟨a,b,c,d,e,f,g,h,i⟩;exact ⟨a,b,c,d,e,f,g,fun k => h.resolve_left (fun n => n k),i⟩
  · rintro ⟨a,b,c,d,e,f,g,h,i⟩;exact ⟨a,b,c,d,e,f,g,(Classical.em (t.f2 = 1)).elim (fun k => .inr (h k)) .inl,i⟩
theorem Ye (l : List S27) : mapOkB l = true ↔ MapOk l := by
 unfold mapOkB MapOk;simp only [Bool.and_eq_true,decide_eq_true_eq,QA,and_assoc]
 cases l with
 | nil => simp
 | cons t r => simp
end Go.Proofs.Ytomlfbmfdoallaa.PA
