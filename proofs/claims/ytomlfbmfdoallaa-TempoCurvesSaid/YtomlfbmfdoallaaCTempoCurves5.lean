/- TempoCurves, part 5: what the row is built on. -/
import Derived.Test.YtomlfbmfdoallaaCTempoCurves4
import Derived.LoopTactic
import Derived.Laws.EntriesVeiled
import Derived.Lib.Hide
import Derived.Deep.RegionHeld3
import Derived.Deep.QuietTactic
import Derived.BigQuiet
import Derived.BigRegion
import Derived.Test.YtomlfbmfdoallaaProg
import Derived.Shelf.SortM.Plain
import Derived.Shelf.SlGeneric
import Derived.Shelf.SlicesG.CompactI
import Derived.Ground.SlgmProg
import Derived.Ground.SlgnProg
import Derived.Sort.OwnSortedInts
import Derived.Lib.RowBridge
namespace Go.Proofs.Ytomlfbmfdoallaa.PA
open Go.RowKit Go.Proofs.YtomlfbmfdoallaaW.PrintWords Go.Proofs.YtomlfbmfdoallaaW.PrintLast Go.Proofs.YtomlfbmfdoallaaW.PrintMore
attribute [local go_sem] Xf Xe Xj Xk ZV ZU Xd Xc
set_option linter.unusedVariables false
set_option linter.unusedSimpArgs false
mutual
def Zg.l0 : Nat → List (S56) → Int → Option (Bool)
 | 0,_,_ => none
 | k + 1,x0,x3 => if x3 < (x0.length : Int) then (if 0 ≤ x3 then (if ((Ze x0 x3).f0) < 0 then (Zg.j1 k x0 x3 true ((Ze x0 x3).f0) ((Ze x0 x3).f1) ((Ze x0 x3).f2)) else (if ((Ze x0 x3).f0) > 1000000000 then (Zg.j1 k x0 x3 true ((Ze x0 x3).f0) ((Ze x0 x3).f1) ((Ze x0 x3).f2)) else (if x3 > 0 then (if 0 ≤ (wrap64 (x3 - 1)) then (if (wrap64 (x3 - 1)) < (x0.length : Int) then (if ((Ze x0 x3).f0) ≤ ((Ze x0 (wrap64 (x3 - 1))).f0) then (Zg.j1 k x0 x3 true ((Ze x0 x3).f0) ((Ze x0 x3).f1) ((Ze x0 x3).f2)) else (if ((Ze x0 x3).f1) < (-8388607) then (Zg.j1 k x0 x3 true ((Ze x0 x3).f0) ((Ze x0 x3).f1) ((Ze x0 x3).f2)) else (if ((Ze x0 x3).f1) > 8388607 then (Zg.j1 k x0 x3 true ((Ze x0 x3).f0) ((Ze x0 x3).f1) ((Ze x0 x3).f2)) else (if ((Ze x0 x3).f2) < 0 then (Zg.j1 k x0 x3 true ((Ze x0 x3).f0) ((Ze x0 x3).f1) ((Ze x0 x3).f2)) else (Zg.j1 k x0 x3 (decide (((Ze x0 x3).f2) > 2)) ((Ze x0 x3).f0) ((Ze x0 x3).f1) ((Ze x0 x3).f2)))))) else (none)) else (none)) else (if ((Ze x0 x3).f1) < (-8388607) then (Zg.j1 k x0 x3 true ((Ze x0 x3).f0) ((Ze x0 x3).f1) ((Ze x0 x3).f2)) else (if ((Ze x0 x3).f1) > 8388607 then (Zg.j1 k x0 x3 true ((Ze x0 x3).f0) ((Ze x0 x3).f1) ((Ze x0 x3).f2)) else (if ((Ze x0 x3).f2) < 0 then (Zg.j1 k x0 x3 true ((Ze x0 x3).f0) ((Ze x0 x3).f1) ((Ze x0 x3).f2)) else (Zg.j1 k x0 x3 (decide (((Ze x0 x3).f2) > 2)) ((Ze x0 x3).f0) ((Ze x0 x3).f1) ((Ze x0 x3).f2)))))))) else (none)) else (if (x0.length : Int) ≥ 1 then (some (decide ((x0.length : Int) ≤ 100))) else (some false))
def Zg.j1 : Nat → List (S56) → Int → Bool → Int → Int → Int → Option (Bool)
 | 0,_,_,_,_,_,_ => none
 | k + 1,x0,x3,x57,x356000,x356001,x356002 => if x57 = true then (some false) else (if x356002 = 2 then (if (wrap64 (x3 + 1)) < (x0.length : Int) then (if 0 ≤ (wrap64 (x3 + 1)) then (if (wrap64 (((Ze x0 (wrap64 (x3 + 1))).f0) - x356000)) > 1000 then (some false) else (Zg.l0 k x0 (wrap64 (x3 + 1)))) else (none)) else (Zg.l0 k x0 (wrap64 (x3 + 1)))) else (Zg.l0 k x0 (wrap64 (x3 + 1))))
end
def Zg.f (k : Nat) (l0 : List (S56)) : Option (Bool) := Zg.l0 k l0 0
theorem Zg.Xm : ∀ k,(∀ y0 y1,LeO (Zg.l0 k y0 y1) (Zg.l0 (k + 1) y0 y1)) ∧ (∀ y0 y1 y2 y3 y4 y5,LeO (Zg.j1 k y0 y1 y2 y3 y4 y5) (Zg.j1 (k + 1) y0 y1 y2 y3 y4 y5))
 | 0 => ⟨fun _ _ r h => by simp [Zg.l0] at h,fun _ _ _ _ _ _ r h => by simp [Zg.j1] at h⟩
 | k + 1 => by
  obtain ⟨ih0,ih1⟩ := Zg.Xm k;refine ⟨?_,?_⟩
  · intro y0 y1
    unfold Zg.l0
    repeat' first
    | (with_reducible exact ih0 _ _)
    | (with_reducible exact ih1 _ _ _ _ _ _)
    | (with_reducible exact LeO.refl _)
    | (with_reducible exact LeO.none _)
    | (with_reducible refine LeO.ite ?_ ?_)
    | (with_reducible refine LeO.bind ?_ (fun _ => ?_))
    | exact ih0 _ _
    | exact ih1 _ _ _ _ _ _
    | exact LeO.none _
    | refine LeO.ite ?_ ?_
    | refine LeO.bind ?_ (fun _ => ?_)
  · intro y0 y1 y2 y3 y4 y5
    unfold Zg.j1
    repeat' first
    | (with_reducible exact ih0 _ _)
    | (with_reducible exact ih1 _ _ _ _ _ _)
    | (with_reducible exact LeO.refl _)
    | (with_reducible exact LeO.none _)
    | (with_reducible refine LeO.ite ?_ ?_)
    | (with_reducible refine LeO.bind ?_ (fun _ => ?_))
    | exact ih0 _ _
    | exact ih1 _ _ _ _ _ _
    | exact LeO.none _
    | refine LeO.ite ?_ ?_
    | refine LeO.bind ?_ (fun _ => ?_)
theorem Zg.mono : ∀ a0 k,LeO (Zg.f k a0) (Zg.f (k + 1) a0) := by
 intro a0 k;obtain ⟨ih0,ih1⟩ := Zg.Xm k;unfold Zg.f
 repeat' first
  | (with_reducible exact ih0 _ _)
  | (with_reducible exact ih1 _ _ _ _ _ _)
  | (with_reducible exact LeO.refl _)
  | (with_reducible exact LeO.none _)
  | (with_reducible refine LeO.ite ?_ ?_)
  | (with_reducible refine LeO.bind ?_ (fun _ => ?_))
  | exact ih0 _ _
  | exact ih1 _ _ _ _ _ _
  | exact LeO.none _
  | refine LeO.ite ?_ ?_
  | refine LeO.bind ?_ (fun _ => ?_)
set_option maxHeartbeats 8000000 in
set_option maxRecDepth 100000 in
theorem Zg.calls (k : Nat) (A0 : Option Addr) (c0 : Nat) (l0 : List (S56)) (r : Bool) (w : World) (hr0 : Kd.C k56 w A0 l0.length l0) (hc0 : l0.length ≤ c0) (h : Zg.f k l0 = some r) :
 Calls Try.prog 37 #[.slice A0 l0.length c0] w fun e w' => e = .returned (.bool r) ∧ Below w.heap.size w w' := by
 have hu56 := Try.underlying56;have HR0 := Zd.mk hr0;have HC0 := Zd.mk hc0;clear hr0 hc0;have HB := Zd.mk (Below.refl w.heap.size w);have H : (Zg.l0 k l0 0) = some r := h;clear h;have H' := Zd.mk H;clear H
 go_enter Try.func37,Try.ntmps37
 go_wp2
 repeat (go_quiet (fail);try go_wp2)
 go_loopg [3] k (fun kq v3 w' => ∃ (x3_1 : Int),v3 = .int .i64 x3_1 ∧ Zd (Zg.l0 kq l0 x3_1 = some r) ∧ Zd (kq ≤ k) ∧ Zd (Below w.heap.size w w'))
 case atStart => exact ⟨(0),(by first | rfl | (simp;done) | (simp [*];done)),H',⟨Nat.le_refl _⟩,⟨by repeat (first | (with_reducible first | exact HB.out | apply Zc | apply Za | apply Zb) | exact HB.out)⟩⟩
 case round =>
  clear H';obtain ⟨x3_1,rfl,HA,HK1,HB⟩ := hrel
  cases gk with
  | zero => exact absurd HA.out (by simp [Zg.l0])
  | succ k1 =>
   have H := HA.out;clear HA;simp only [Zg.l0] at H
   by_cases c2 : x3_1 < (l0.length : Int)
   · rw [if_pos c2] at H
     have c2b0 : decide (x3_1 < (l0.length : Int)) = true := decide_eq_true c2;clear c2
     by_cases c3 : 0 ≤ x3_1
     · rw [if_pos c3] at H
       have c3b0 : decide (0 ≤ x3_1) = true := decide_eq_true c3;clear c3;have HC4 := Zd.mk H;clear H;have p354 : 0 ≤ (x3_1 : Int) := of_decide_eq_true (by first | (with_reducible assumption) | assumption);have q354 : x3_1 < (l0.length : Int) := of_decide_eq_true (by first | (with_reducible assumption) | assumption);obtain ⟨ad354,e354,hx354_0,hx354_1,hx354_2⟩ := Xg HR0.out x3_1 p354 q354
       cases e354
       replace hx354_0 := (HB.out.cell (World.block_lt_of_cell? w _ hx354_0)).trans hx354_0;replace hx354_1 := (HB.out.cell (World.block_lt_of_cell? w _ hx354_1)).trans hx354_1;replace hx354_2 := (HB.out.cell (World.block_lt_of_cell? w _ hx354_2)).trans hx354_2;replace p354 := eq_true p354;replace q354 := eq_true q354
       go_upto_region 5 with (first | ((with_reducible refine Xq (N := 4) rfl ?_);(try (refine XD (by rfl) ?_;dsimp only));refine Xy ?hg (N := 4) ?hd (cs := #[.int .i64 0,.int .i64 0,.int .i64 0]) (t := 56) ?hr ?_;(case hd => rfl);(case hg => rfl);(case hr => first | (go_simp;done) | (go_simp;rfl));intro gb355 hg w5 hbox hb;have n0_ := Zd.mk (Z0 (by repeat (first | (with_reducible first | exact HB.out | apply Zc | apply Za | apply Zb) | exact HB.out)) hb);have n1_ := Zd.mk (hbox);have n2_ := Zd.mk ((by rw [hg];exact (ZJ (by repeat (first | (with_reducible first | exact HB.out | apply Zc | apply Za | apply Zb) | exact HB.out))) : w.heap.size ≤ gb355));have n3_ := Zd.mk ((by rw [hg];exact (ZJ (by repeat (first | (with_reducible first | exact HB.out | apply Zc | apply Za | apply Zb) | exact HB.out))) : w.heap.size ≤ gb355));clear HB;have HB := n0_;have BK355 := n1_;have GW355 := n2_;have GE355 := n3_;clear n0_ n1_ n2_ n3_;clear hb hbox hg;have hcz6_0 : w5.cell? ⟨gb355,0,none⟩ = some (.int .i64 0) := (Zm BK355.out 0).trans rfl;have hcz6_1 : w5.cell? ⟨gb355,1,none⟩ = some (.int .i64 0) := (Zm BK355.out 1).trans rfl;have hcz6_2 : w5.cell? ⟨gb355,2,none⟩ = some (.int .i64 0) := (Zm BK355.out 2).trans rfl;have hfz6_0 := Zr BK355.out 0;have hfz6_1 := Zr BK355.out 1;have hfz6_2 := Zr BK355.out 2))
       repeat (go_quiet (first | ((with_reducible refine Xq (N := 4) rfl ?_);(try (refine XD (by rfl) ?_;dsimp only));refine Xy ?hg (N := 4) ?hd (cs := #[.int .i64 0,.int .i64 0,.int .i64 0]) (t := 56) ?hr ?_;(case hd => rfl);(case hg => rfl);(case hr => first | (go_simp;done) | (go_simp;rfl));intro gb355 hg w5 hbox hb;have n0_ := Zd.mk (Z0 (by repeat (first | (with_reducible first | exact HB.out | apply Zc | apply Za | apply Zb) | exact HB.out)) hb);have n1_ := Zd.mk (hbox);have n2_ := Zd.mk ((by rw [hg];exact (ZJ (by repeat (first | (with_reducible first | exact HB.out | apply Zc | apply Za | apply Zb) | exact HB.out))) : w.heap.size ≤ gb355));have n3_ := Zd.mk ((by rw [hg];exact (ZJ (by repeat (first | (with_reducible first | exact HB.out | apply Zc | apply Za | apply Zb) | exact HB.out))) : w.heap.size ≤ gb355));clear HB;have HB := n0_;have BK355 := n1_;have GW355 := n2_;have GE355 := n3_;clear n0_ n1_ n2_ n3_;clear hb hbox hg;have hcz6_0 : w5.cell? ⟨gb355,0,none⟩ = some (.int .i64 0) := (Zm BK355.out 0).trans rfl;have hcz6_1 : w5.cell? ⟨gb355,1,none⟩ = some (.int .i64 0) := (Zm BK355.out 1).trans rfl;have hcz6_2 : w5.cell? ⟨gb355,2,none⟩ = some (.int .i64 0) := (Zm BK355.out 2).trans rfl;have hfz6_0 := Zr BK355.out 0;have hfz6_1 := Zr BK355.out 1;have hfz6_2 := Zr BK355.out 2));go_upto_region 5 with (first | ((with_reducible refine Xq (N := 4) rfl ?_);(try (refine XD (by rfl) ?_;dsimp only));refine Xy ?hg (N := 4) ?hd (cs := #[.int .i64 0,.int .i64 0,.int .i64 0]) (t := 56) ?hr ?_;(case hd => rfl);(case hg => rfl);(case hr => first | (go_simp;done) | (go_simp;rfl));intro gb355 hg w5 hbox hb;have n0_ := Zd.mk (Z0 (by repeat (first | (with_reducible first | exact HB.out | apply Zc | apply Za | apply Zb) | exact HB.out)) hb);have n1_ := Zd.mk (hbox);have n2_ := Zd.mk ((by rw [hg];exact (ZJ (by repeat (first | (with_reducible first | exact HB.out | apply Zc | apply Za | apply Zb) | exact HB.out))) : w.heap.size ≤ gb355));have n3_ := Zd.mk ((by rw [hg];exact (ZJ (by repeat (first | (with_reducible first | exact HB.out | apply Zc | apply Za | apply Zb) | exact HB.out))) : w.heap.size ≤ gb355));clear HB;have HB := n0_;have BK355 := n1_;have GW355 := n2_;have GE355 := n3_;clear n0_ n1_ n2_ n3_;clear hb hbox hg;have hcz6_0 : w5.cell? ⟨gb355,0,none⟩ = some (.int .i64 0) := (Zm BK355.out 0).trans rfl;have hcz6_1 : w5.cell? ⟨gb355,1,none⟩ = some (.int .i64 0) := (Zm BK355.out 1).trans rfl;have hcz6_2 : w5.cell? ⟨gb355,2,none⟩ = some (.int .i64 0) := (Zm BK355.out 2).trans rfl;have hfz6_0 := Zr BK355.out 0;have hfz6_1 := Zr BK355.out 1;have hfz6_2 := Zr BK355.out 2)))
       (try simp only [Act.put,YV,YW,YX])
       go_cut [57] (fun v57 wc => ∃ (kq : Nat) (x57_3 : Bool),v57 = .bool x57_3 ∧ Zd (Zg.j1 kq l0 x3_1 x57_3 ((Ze l0 x3_1).f0) ((Ze l0 x3_1).f1) ((Ze l0 x3_1).f2) = some r) ∧ Zd (kq ≤ k1) ∧ Zd (wc.heap[gb355]? = some (.cells #[.int .i64 ((Ze l0 x3_1).f0),.int .i64 ((Ze l0 x3_1).f1),.int .i64 ((Ze l0 x3_1).f2)] 56 (0,0))) ∧ Zd (Below w.heap.size w wc))
       case first =>
        have H := HC4.out;clear HC4
        by_cases c7 : ((Ze l0 x3_1).f0) < 0
        · rw [if_pos c7] at H
          have c7b0 : decide (((Ze l0 x3_1).f0) < 0) = true := decide_eq_true c7;clear c7
          (first | rw [c7b0] | (simp only [i64_w,i32_w];rw [c7b0]) | skip)
          have H' := Zd.mk H;clear H;have hcz8_0 : w5.cell? ⟨gb355,0,none⟩ = some (.int .i64 0) := (Zm BK355.out 0).trans rfl;have hcz8_1 : w5.cell? ⟨gb355,1,none⟩ = some (.int .i64 0) := (Zm BK355.out 1).trans rfl;have hcz8_2 : w5.cell? ⟨gb355,2,none⟩ = some (.int .i64 0) := (Zm BK355.out 2).trans rfl;have hfz8_0 := Zr BK355.out 0;have hfz8_1 := Zr BK355.out 1;have hfz8_2 := Zr BK355.out 2
          go_wp2
          repeat (go_quiet (fail);try go_wp2)
          go_meet
          case rel => exact ⟨_,(true),(by first | rfl | (simp;done) | (simp [*];done)),H',⟨by have := HK1.out;first | omega | exact Nat.le_refl _⟩,⟨by (with_reducible repeat (first | refine Zu ?_ _ | refine Zw ?_ | refine Zs ?_ _));refine ZE (cs := #[.int .i64 ((Ze l0 x3_1).f0),.int .i64 ((Ze l0 x3_1).f1),.int .i64 0]) ?_ 2 _ rfl;(with_reducible repeat (first | refine Zu ?_ _ | refine Zw ?_ | refine Zs ?_ _));refine ZE (cs := #[.int .i64 ((Ze l0 x3_1).f0),.int .i64 0,.int .i64 0]) ?_ 1 _ rfl;(with_reducible repeat (first | refine Zu ?_ _ | refine Zw ?_ | refine Zs ?_ _));refine ZE (cs := #[.int .i64 0,.int .i64 0,.int .i64 0]) ?_ 0 _ rfl;(with_reducible repeat (first | refine Zu ?_ _ | refine Zw ?_ | refine Zs ?_ _));exact BK355.out⟩,⟨by repeat (first | (with_reducible first | exact HB.out | apply Zc | apply Za | apply Zb | refine Z9 ?_ GE355.out) | exact HB.out)⟩⟩
        · rw [if_neg c7] at H
          have c7b0 : decide (((Ze l0 x3_1).f0) < 0) = false := decide_eq_false c7;clear c7
          (first | rw [c7b0] | (simp only [i64_w,i32_w];rw [c7b0]) | skip)
          by_cases c9 : ((Ze l0 x3_1).f0) > 1000000000
          · rw [if_pos c9] at H
            have c9b0 : decide (1000000000 < ((Ze l0 x3_1).f0)) = true := decide_eq_true c9;clear c9;have H' := Zd.mk H;clear H;have hcz10_0 : w5.cell? ⟨gb355,0,none⟩ = some (.int .i64 0) := (Zm BK355.out 0).trans rfl;have hcz10_1 : w5.cell? ⟨gb355,1,none⟩ = some (.int .i64 0) := (Zm BK355.out 1).trans rfl;have hcz10_2 : w5.cell? ⟨gb355,2,none⟩ = some (.int .i64 0) := (Zm BK355.out 2).trans rfl;have hfz10_0 := Zr BK355.out 0;have hfz10_1 := Zr BK355.out 1;have hfz10_2 := Zr BK355.out 2
            go_wp2
            repeat (go_quiet (fail);try go_wp2)
            go_meet
            case rel => exact ⟨_,(true),(by first | rfl | (simp;done) | (simp [*];done)),H',⟨by have := HK1.out;first | omega | exact Nat.le_refl _⟩,⟨by (with_reducible repeat (first | refine Zu ?_ _ | refine Zw ?_ | refine Zs ?_ _));refine ZE (cs := #[.int .i64 ((Ze l0 x3_1).f0),.int .i64 ((Ze l0 x3_1).f1),.int .i64 0]) ?_ 2 _ rfl;(with_reducible repeat (first | refine Zu ?_ _ | refine Zw ?_ | refine Zs ?_ _));refine ZE (cs := #[.int .i64 ((Ze l0 x3_1).f0),.int .i64 0,.int .i64 0]) ?_ 1 _ rfl;(with_reducible repeat (first | refine Zu ?_ _ | refine Zw ?_ | refine Zs ?_ _));refine ZE (cs := #[.int .i64 0,.int .i64 0,.int .i64 0]) ?_ 0 _ rfl;(with_reducible repeat (first | refine Zu ?_ _ | refine Zw ?_ | refine Zs ?_ _));exact BK355.out⟩,⟨by repeat (first | (with_reducible first | exact HB.out | apply Zc | apply Za | apply Zb | refine Z9 ?_ GE355.out) | exact HB.out)⟩⟩
          · rw [if_neg c9] at H
            have c9b0 : decide (1000000000 < ((Ze l0 x3_1).f0)) = false := decide_eq_false c9;clear c9
            by_cases c11 : x3_1 > 0
            · rw [if_pos c11] at H
              have c11b0 : decide (0 < x3_1) = true := decide_eq_true c11;clear c11
              obtain ⟨ji12,hji12⟩ : ∃ j_ : Int,(wrap64 (x3_1 - 1)) = j_ := ⟨_,rfl⟩
              replace H : (if 0 ≤ (ji12) then (if (ji12) < (l0.length : Int) then (if ((Ze l0 x3_1).f0) ≤ ((Ze l0 (ji12)).f0) then (Zg.j1 k1 l0 x3_1 true ((Ze l0 x3_1).f0) ((Ze l0 x3_1).f1) ((Ze l0 x3_1).f2)) else (if ((Ze l0 x3_1).f1) < (-8388607) then (Zg.j1 k1 l0 x3_1 true ((Ze l0 x3_1).f0) ((Ze l0 x3_1).f1) ((Ze l0 x3_1).f2)) else (if ((Ze l0 x3_1).f1) > 8388607 then (Zg.j1 k1 l0 x3_1 true ((Ze l0 x3_1).f0) ((Ze l0 x3_1).f1) ((Ze l0 x3_1).f2)) else (if ((Ze l0 x3_1).f2) < 0 then (Zg.j1 k1 l0 x3_1 true ((Ze l0 x3_1).f0) ((Ze l0 x3_1).f1) ((Ze l0 x3_1).f2)) else (Zg.j1 k1 l0 x3_1 (decide (((Ze l0 x3_1).f2) > 2)) ((Ze l0 x3_1).f0) ((Ze l0 x3_1).f1) ((Ze l0 x3_1).f2)))))) else (none)) else (none)) = some r := by first | (rw [hji12] at H;exact H) | (simp only [hji12] at H ⊢;exact H)
              have hji12w : (IntKind.i64.wrap (x3_1 - 1)) = ji12 := (i64_w _).trans hji12
              by_cases c13 : 0 ≤ (ji12)
              · rw [if_pos c13] at H
                have c13b0 : decide (0 ≤ (ji12)) = true := decide_eq_true c13;clear c13
                by_cases c14 : (ji12) < (l0.length : Int)
                · rw [if_pos c14] at H
                  have c14b0 : decide ((ji12) < (l0.length : Int)) = true := decide_eq_true c14;clear c14
                  by_cases c15 : ((Ze l0 x3_1).f0) ≤ ((Ze l0 (ji12)).f0)
                  · rw [if_pos c15] at H
                    have c15b0 : decide (((Ze l0 x3_1).f0) ≤ ((Ze l0 (ji12)).f0)) = true := decide_eq_true c15;clear c15;have H' := Zd.mk H;clear H;have hcz16_0 : w5.cell? ⟨gb355,0,none⟩ = some (.int .i64 0) := (Zm BK355.out 0).trans rfl;have hcz16_1 : w5.cell? ⟨gb355,1,none⟩ = some (.int .i64 0) := (Zm BK355.out 1).trans rfl;have hcz16_2 : w5.cell? ⟨gb355,2,none⟩ = some (.int .i64 0) := (Zm BK355.out 2).trans rfl;have hfz16_0 := Zr BK355.out 0;have hfz16_1 := Zr BK355.out 1;have hfz16_2 := Zr BK355.out 2;have p356 : 0 ≤ ((ji12) : Int) := of_decide_eq_true (by first | (with_reducible assumption) | assumption);have q356 : (ji12) < (l0.length : Int) := of_decide_eq_true (by first | (with_reducible assumption) | assumption);obtain ⟨ad356,e356,hx356_0,hx356_1,hx356_2⟩ := Xg HR0.out (ji12) p356 q356
                    obtain rfl : ad354 = ad356 := (by injection e356)
                    have hn356_0 : ad354.block ≠ gb355 := Nat.ne_of_lt (Nat.lt_of_lt_of_le (by have := World.block_lt_of_cell? _ _ hx356_0;first | rwa [Zq] at this | exact this) GW355.out);have hn356_1 : ad354.block ≠ gb355 := Nat.ne_of_lt (Nat.lt_of_lt_of_le (by have := World.block_lt_of_cell? _ _ hx356_0;first | rwa [Zq] at this | exact this) GW355.out);have hn356_2 : ad354.block ≠ gb355 := Nat.ne_of_lt (Nat.lt_of_lt_of_le (by have := World.block_lt_of_cell? _ _ hx356_0;first | rwa [Zq] at this | exact this) GW355.out);replace hx356_0 := (HB.out.cell (World.block_lt_of_cell? w _ hx356_0)).trans hx356_0;replace hx356_1 := (HB.out.cell (World.block_lt_of_cell? w _ hx356_1)).trans hx356_1;replace hx356_2 := (HB.out.cell (World.block_lt_of_cell? w _ hx356_2)).trans hx356_2;replace hx356_0 := (ZL (p := ⟨gb355,0,none⟩) (by first | (rw [Zq];exact hn356_0) | (show (Addr.add _ _).block ≠ _;rw [Zq];exact hn356_0) | exact hn356_0) (.int .i64 ((Ze l0 x3_1).f0))).trans hx356_0;replace hx356_1 := (ZL (p := ⟨gb355,0,none⟩) (by first | (rw [Zq];exact hn356_0) | (show (Addr.add _ _).block ≠ _;rw [Zq];exact hn356_0) | exact hn356_0) (.int .i64 ((Ze l0 x3_1).f0))).trans hx356_1;replace hx356_2 := (ZL (p := ⟨gb355,0,none⟩) (by first | (rw [Zq];exact hn356_0) | (show (Addr.add _ _).block ≠ _;rw [Zq];exact hn356_0) | exact hn356_0) (.int .i64 ((Ze l0 x3_1).f0))).trans hx356_2;replace hx356_0 := (ZL (p := ⟨gb355,1,none⟩) (by first | (rw [Zq];exact hn356_1) | (show (Addr.add _ _).block ≠ _;rw [Zq];exact hn356_1) | exact hn356_1) (.int .i64 ((Ze l0 x3_1).f1))).trans hx356_0;replace hx356_1 := (ZL (p := ⟨gb355,1,none⟩) (by first | (rw [Zq];exact hn356_1) | (show (Addr.add _ _).block ≠ _;rw [Zq];exact hn356_1) | exact hn356_1) (.int .i64 ((Ze l0 x3_1).f1))).trans hx356_1;replace hx356_2 := (ZL (p := ⟨gb355,1,none⟩) (by first | (rw [Zq];exact hn356_1) | (show (Addr.add _ _).block ≠ _;rw [Zq];exact hn356_1) | exact hn356_1) (.int .i64 ((Ze l0 x3_1).f1))).trans hx356_2;replace hx356_0 := (ZL (p := ⟨gb355,2,none⟩) (by first | (rw [Zq];exact hn356_2) | (show (Addr.add _ _).block ≠ _;rw [Zq];exact hn356_2) | exact hn356_2) (.int .i64 ((Ze l0 x3_1).f2))).trans hx356_0;replace hx356_1 := (ZL (p := ⟨gb355,2,none⟩) (by first | (rw [Zq];exact hn356_2) | (show (Addr.add _ _).block ≠ _;rw [Zq];exact hn356_2) | exact hn356_2) (.int .i64 ((Ze l0 x3_1).f2))).trans hx356_1;replace hx356_2 := (ZL (p := ⟨gb355,2,none⟩) (by first | (rw [Zq];exact hn356_2) | (show (Addr.add _ _).block ≠ _;rw [Zq];exact hn356_2) | exact hn356_2) (.int .i64 ((Ze l0 x3_1).f2))).trans hx356_2
                    (try have hy356_0 := fun (n_ : Nat) => (show (((((w5.drewN n_).setCell ⟨gb355,0,none⟩ (.int .i64 ((Ze l0 x3_1).f0))).setCell ⟨gb355,1,none⟩ (.int .i64 ((Ze l0 x3_1).f1))).setCell ⟨gb355,2,none⟩ (.int .i64 ((Ze l0 x3_1).f2)))).cell? _ = some _ from hx356_0))
                    (try have hy356_1 := fun (n_ : Nat) => (show (((((w5.drewN n_).setCell ⟨gb355,0,none⟩ (.int .i64 ((Ze l0 x3_1).f0))).setCell ⟨gb355,1,none⟩ (.int .i64 ((Ze l0 x3_1).f1))).setCell ⟨gb355,2,none⟩ (.int .i64 ((Ze l0 x3_1).f2)))).cell? _ = some _ from hx356_1))
                    (try have hy356_2 := fun (n_ : Nat) => (show (((((w5.drewN n_).setCell ⟨gb355,0,none⟩ (.int .i64 ((Ze l0 x3_1).f0))).setCell ⟨gb355,1,none⟩ (.int .i64 ((Ze l0 x3_1).f1))).setCell ⟨gb355,2,none⟩ (.int .i64 ((Ze l0 x3_1).f2)))).cell? _ = some _ from hx356_2))
                    clear hn356_0;clear hn356_1;clear hn356_2;replace p356 := eq_true p356;replace q356 := eq_true q356
                    go_wp2
                    repeat (go_quiet (fail);try go_wp2)
                    go_meet
                    case rel => exact ⟨_,(true),(by first | rfl | (simp;done) | (simp [*];done)),H',⟨by have := HK1.out;first | omega | exact Nat.le_refl _⟩,⟨by (with_reducible repeat (first | refine Zu ?_ _ | refine Zw ?_ | refine Zs ?_ _));refine ZE (cs := #[.int .i64 ((Ze l0 x3_1).f0),.int .i64 ((Ze l0 x3_1).f1),.int .i64 0]) ?_ 2 _ rfl;(with_reducible repeat (first | refine Zu ?_ _ | refine Zw ?_ | refine Zs ?_ _));refine ZE (cs := #[.int .i64 ((Ze l0 x3_1).f0),.int .i64 0,.int .i64 0]) ?_ 1 _ rfl;(with_reducible repeat (first | refine Zu ?_ _ | refine Zw ?_ | refine Zs ?_ _));refine ZE (cs := #[.int .i64 0,.int .i64 0,.int .i64 0]) ?_ 0 _ rfl;(with_reducible repeat (first | refine Zu ?_ _ | refine Zw ?_ | refine Zs ?_ _));exact BK355.out⟩,⟨by repeat (first | (with_reducible first | exact HB.out | apply Zc | apply Za | apply Zb | refine Z9 ?_ GE355.out) | exact HB.out)⟩⟩
                  · rw [if_neg c15] at H
                    have c15b0 : decide (((Ze l0 x3_1).f0) ≤ ((Ze l0 (ji12)).f0)) = false := decide_eq_false c15;clear c15
                    by_cases c17 : ((Ze l0 x3_1).f1) < (-8388607)
                    · rw [if_pos c17] at H
                      have c17b0 : decide (((Ze l0 x3_1).f1) < (-8388607)) = true := decide_eq_true c17;clear c17;have H' := Zd.mk H;clear H;have hcz18_0 : w5.cell? ⟨gb355,0,none⟩ = some (.int .i64 0) := (Zm BK355.out 0).trans rfl;have hcz18_1 : w5.cell? ⟨gb355,1,none⟩ = some (.int .i64 0) := (Zm BK355.out 1).trans rfl;have hcz18_2 : w5.cell? ⟨gb355,2,none⟩ = some (.int .i64 0) := (Zm BK355.out 2).trans rfl;have hfz18_0 := Zr BK355.out 0;have hfz18_1 := Zr BK355.out 1;have hfz18_2 := Zr BK355.out 2;have p356 : 0 ≤ ((ji12) : Int) := of_decide_eq_true (by first | (with_reducible assumption) | assumption);have q356 : (ji12) < (l0.length : Int) := of_decide_eq_true (by first | (with_reducible assumption) | assumption);obtain ⟨ad356,e356,hx356_0,hx356_1,hx356_2⟩ := Xg HR0.out (ji12) p356 q356
                      obtain rfl : ad354 = ad356 := (by injection e356)
                      have hn356_0 : ad354.block ≠ gb355 := Nat.ne_of_lt (Nat.lt_of_lt_of_le (by have := World.block_lt_of_cell? _ _ hx356_0;first | rwa [Zq] at this | exact this) GW355.out);have hn356_1 : ad354.block ≠ gb355 := Nat.ne_of_lt (Nat.lt_of_lt_of_le (by have := World.block_lt_of_cell? _ _ hx356_0;first | rwa [Zq] at this | exact this) GW355.out);have hn356_2 : ad354.block ≠ gb355 := Nat.ne_of_lt (Nat.lt_of_lt_of_le (by have := World.block_lt_of_cell? _ _ hx356_0;first | rwa [Zq] at this | exact this) GW355.out);replace hx356_0 := (HB.out.cell (World.block_lt_of_cell? w _ hx356_0)).trans hx356_0;replace hx356_1 := (HB.out.cell (World.block_lt_of_cell? w _ hx356_1)).trans hx356_1;replace hx356_2 := (HB.out.cell (World.block_lt_of_cell? w _ hx356_2)).trans hx356_2;replace hx356_0 := (ZL (p := ⟨gb355,0,none⟩) (by first | (rw [Zq];exact hn356_0) | (show (Addr.add _ _).block ≠ _;rw [Zq];exact hn356_0) | exact hn356_0) (.int .i64 ((Ze l0 x3_1).f0))).trans hx356_0;replace hx356_1 := (ZL (p := ⟨gb355,0,none⟩) (by first | (rw [Zq];exact hn356_0) | (show (Addr.add _ _).block ≠ _;rw [Zq];exact hn356_0) | exact hn356_0) (.int .i64 ((Ze l0 x3_1).f0))).trans hx356_1;replace hx356_2 := (ZL (p := ⟨gb355,0,none⟩) (by first | (rw [Zq];exact hn356_0) | (show (Addr.add _ _).block ≠ _;rw [Zq];exact hn356_0) | exact hn356_0) (.int .i64 ((Ze l0 x3_1).f0))).trans hx356_2;replace hx356_0 := (ZL (p := ⟨gb355,1,none⟩) (by first | (rw [Zq];exact hn356_1) | (show (Addr.add _ _).block ≠ _;rw [Zq];exact hn356_1) | exact hn356_1) (.int .i64 ((Ze l0 x3_1).f1))).trans hx356_0;replace hx356_1 := (ZL (p := ⟨gb355,1,none⟩) (by first | (rw [Zq];exact hn356_1) | (show (Addr.add _ _).block ≠ _;rw [Zq];exact hn356_1) | exact hn356_1) (.int .i64 ((Ze l0 x3_1).f1))).trans hx356_1;replace hx356_2 := (ZL (p := ⟨gb355,1,none⟩) (by first | (rw [Zq];exact hn356_1) | (show (Addr.add _ _).block ≠ _;rw [Zq];exact hn356_1) | exact hn356_1) (.int .i64 ((Ze l0 x3_1).f1))).trans hx356_2;replace hx356_0 := (ZL (p := ⟨gb355,2,none⟩) (by first | (rw [Zq];exact hn356_2) | (show (Addr.add _ _).block ≠ _;rw [Zq];exact hn356_2) | exact hn356_2) (.int .i64 ((Ze l0 x3_1).f2))).trans hx356_0;replace hx356_1 := (ZL (p := ⟨gb355,2,none⟩) (by first | (rw [Zq];exact hn356_2) | (show (Addr.add _ _).block ≠ _;rw [Zq];exact hn356_2) | exact hn356_2) (.int .i64 ((Ze l0 x3_1).f2))).trans hx356_1;replace hx356_2 := (ZL (p := ⟨gb355,2,none⟩) (by first | (rw [Zq];exact hn356_2) | (show (Addr.add _ _).block ≠ _;rw [Zq];exact hn356_2) | exact hn356_2) (.int .i64 ((Ze l0 x3_1).f2))).trans hx356_2
                      (try have hy356_0 := fun (n_ : Nat) => (show (((((w5.drewN n_).setCell ⟨gb355,0,none⟩ (.int .i64 ((Ze l0 x3_1).f0))).setCell ⟨gb355,1,none⟩ (.int .i64 ((Ze l0 x3_1).f1))).setCell ⟨gb355,2,none⟩ (.int .i64 ((Ze l0 x3_1).f2)))).cell? _ = some _ from hx356_0))
                      (try have hy356_1 := fun (n_ : Nat) => (show (((((w5.drewN n_).setCell ⟨gb355,0,none⟩ (.int .i64 ((Ze l0 x3_1).f0))).setCell ⟨gb355,1,none⟩ (.int .i64 ((Ze l0 x3_1).f1))).setCell ⟨gb355,2,none⟩ (.int .i64 ((Ze l0 x3_1).f2)))).cell? _ = some _ from hx356_1))
                      (try have hy356_2 := fun (n_ : Nat) => (show (((((w5.drewN n_).setCell ⟨gb355,0,none⟩ (.int .i64 ((Ze l0 x3_1).f0))).setCell ⟨gb355,1,none⟩ (.int .i64 ((Ze l0 x3_1).f1))).setCell ⟨gb355,2,none⟩ (.int .i64 ((Ze l0 x3_1).f2)))).cell? _ = some _ from hx356_2))
                      clear hn356_0;clear hn356_1;clear hn356_2;replace p356 := eq_true p356;replace q356 := eq_true q356
                      go_wp2
                      repeat (go_quiet (fail);try go_wp2)
                      go_meet
                      case rel => exact ⟨_,(true),(by first | rfl | (simp;done) | (simp [*];done)),H',⟨by have := HK1.out;first | omega | exact Nat.le_refl _⟩,⟨by (with_reducible repeat (first | refine Zu ?_ _ | refine Zw ?_ | refine Zs ?_ _));refine ZE (cs := #[.int .i64 ((Ze l0 x3_1).f0),.int .i64 ((Ze l0 x3_1).f1),.int .i64 0]) ?_ 2 _ rfl;(with_reducible repeat (first | refine Zu ?_ _ | refine Zw ?_ | refine Zs ?_ _));refine ZE (cs := #[.int .i64 ((Ze l0 x3_1).f0),.int .i64 0,.int .i64 0]) ?_ 1 _ rfl;(with_reducible repeat (first | refine Zu ?_ _ | refine Zw ?_ | refine Zs ?_ _));refine ZE (cs := #[.int .i64 0,.int .i64 0,.int .i64 0]) ?_ 0 _ rfl;(with_reducible repeat (first | refine Zu ?_ _ | refine Zw ?_ | refine Zs ?_ _));exact BK355.out⟩,⟨by repeat (first | (with_reducible first | exact HB.out | apply Zc | apply Za | apply Zb | refine Z9 ?_ GE355.out) | exact HB.out)⟩⟩
                    · rw [if_neg c17] at H
                      have c17b0 : decide (((Ze l0 x3_1).f1) < (-8388607)) = false := decide_eq_false c17;clear c17
                      by_cases c19 : ((Ze l0 x3_1).f1) > 8388607
                      · rw [if_pos c19] at H
                        have c19b0 : decide (8388607 < ((Ze l0 x3_1).f1)) = true := decide_eq_true c19;clear c19;have H' := Zd.mk H;clear H;have hcz20_0 : w5.cell? ⟨gb355,0,none⟩ = some (.int .i64 0) := (Zm BK355.out 0).trans rfl;have hcz20_1 : w5.cell? ⟨gb355,1,none⟩ = some (.int .i64 0) := (Zm BK355.out 1).trans rfl;have hcz20_2 : w5.cell? ⟨gb355,2,none⟩ = some (.int .i64 0) := (Zm BK355.out 2).trans rfl;have hfz20_0 := Zr BK355.out 0;have hfz20_1 := Zr BK355.out 1;have hfz20_2 := Zr BK355.out 2;have p356 : 0 ≤ ((ji12) : Int) := of_decide_eq_true (by first | (with_reducible assumption) | assumption);have q356 : (ji12) < (l0.length : Int) := of_decide_eq_true (by first | (with_reducible assumption) | assumption);obtain ⟨ad356,e356,hx356_0,hx356_1,hx356_2⟩ := Xg HR0.out (ji12) p356 q356
                        obtain rfl : ad354 = ad356 := (by injection e356)
                        have hn356_0 : ad354.block ≠ gb355 := Nat.ne_of_lt (Nat.lt_of_lt_of_le (by have := World.block_lt_of_cell? _ _ hx356_0;first | rwa [Zq] at this | exact this) GW355.out);have hn356_1 : ad354.block ≠ gb355 := Nat.ne_of_lt (Nat.lt_of_lt_of_le (by have := World.block_lt_of_cell? _ _ hx356_0;first | rwa [Zq] at this | exact this) GW355.out);have hn356_2 : ad354.block ≠ gb355 := Nat.ne_of_lt (Nat.lt_of_lt_of_le (by have := World.block_lt_of_cell? _ _ hx356_0;first | rwa [Zq] at this | exact this) GW355.out);replace hx356_0 := (HB.out.cell (World.block_lt_of_cell? w _ hx356_0)).trans hx356_0;replace hx356_1 := (HB.out.cell (World.block_lt_of_cell? w _ hx356_1)).trans hx356_1;replace hx356_2 := (HB.out.cell (World.block_lt_of_cell? w _ hx356_2)).trans hx356_2;replace hx356_0 := (ZL (p := ⟨gb355,0,none⟩) (by first | (rw [Zq];exact hn356_0) | (show (Addr.add _ _).block ≠ _;rw [Zq];exact hn356_0) | exact hn356_0) (.int .i64 ((Ze l0 x3_1).f0))).trans hx356_0;replace hx356_1 := (ZL (p := ⟨gb355,0,none⟩) (by first | (rw [Zq];exact hn356_0) | (show (Addr.add _ _).block ≠ _;rw [Zq];exact hn356_0) | exact hn356_0) (.int .i64 ((Ze l0 x3_1).f0))).trans hx356_1;replace hx356_2 := (ZL (p := ⟨gb355,0,none⟩) (by first | (rw [Zq];exact hn356_0) | (show (Addr.add _ _).block ≠ _;rw [Zq];exact hn356_0) | exact hn356_0) (.int .i64 ((Ze l0 x3_1).f0))).trans hx356_2;replace hx356_0 := (ZL (p := ⟨gb355,1,none⟩) (by first | (rw [Zq];exact hn356_1) | (show (Addr.add _ _).block ≠ _;rw [Zq];exact hn356_1) | exact hn356_1) (.int .i64 ((Ze l0 x3_1).f1))).trans hx356_0;replace hx356_1 := (ZL (p := ⟨gb355,1,none⟩) (by first | (rw [Zq];exact hn356_1) | (show (Addr.add _ _).block ≠ _;rw [Zq];exact hn356_1) | exact hn356_1) (.int .i64 ((Ze l0 x3_1).f1))).trans hx356_1;replace hx356_2 := (ZL (p := ⟨gb355,1,none⟩) (by first | (rw [Zq];exact hn356_1) | (show (Addr.add _ _).block ≠ _;rw [Zq];exact hn356_1) | exact hn356_1) (.int .i64 ((Ze l0 x3_1).f1))).trans hx356_2;replace hx356_0 := (ZL (p := ⟨gb355,2,none⟩) (by first | (rw [Zq];exact hn356_2) | (show (Addr.add _ _).block ≠ _;rw [Zq];exact hn356_2) | exact hn356_2) (.int .i64 ((Ze l0 x3_1).f2))).trans hx356_0;replace hx356_1 := (ZL (p := ⟨gb355,2,none⟩) (by first | (rw [Zq];exact hn356_2) | (show (Addr.add _ _).block ≠ _;rw [Zq];exact hn356_2) | exact hn356_2) (.int .i64 ((Ze l0 x3_1).f2))).trans hx356_1;replace hx356_2 := (ZL (p := ⟨gb355,2,none⟩) (by first | (rw [Zq];exact hn356_2) | (show (Addr.add _ _).block ≠ _;rw [Zq];exact hn356_2) | exact hn356_2) (.int .i64 ((Ze l0 x3_1).f2))).trans hx356_2
                        (try have hy356_0 := fun (n_ : Nat) => (show (((((w5.drewN n_).setCell ⟨gb355,0,none⟩ (.int .i64 ((Ze l0 x3_1).f0))).setCell ⟨gb355,1,none⟩ (.int .i64 ((Ze l0 x3_1).f1))).setCell ⟨gb355,2,none⟩ (.int .i64 ((Ze l0 x3_1).f2)))).cell? _ = some _ from hx356_0))
                        (try have hy356_1 := fun (n_ : Nat) => (show (((((w5.drewN n_).setCell ⟨gb355,0,none⟩ (.int .i64 ((Ze l0 x3_1).f0))).setCell ⟨gb355,1,none⟩ (.int .i64 ((Ze l0 x3_1).f1))).setCell ⟨gb355,2,none⟩ (.int .i64 ((Ze l0 x3_1).f2)))).cell? _ = some _ from hx356_1))
                        (try have hy356_2 := fun (n_ : Nat) => (show (((((w5.drewN n_).setCell ⟨gb355,0,none⟩ (.int .i64 ((Ze l0 x3_1).f0))).setCell ⟨gb355,1,none⟩ (.int .i64 ((Ze l0 x3_1).f1))).setCell ⟨gb355,2,none⟩ (.int .i64 ((Ze l0 x3_1).f2)))).cell? _ = some _ from hx356_2))
                        clear hn356_0;clear hn356_1;clear hn356_2;replace p356 := eq_true p356;replace q356 := eq_true q356
                        go_wp2
                        repeat (go_quiet (fail);try go_wp2)
                        go_meet
                        case rel => exact ⟨_,(true),(by first | rfl | (simp;done) | (simp [*];done)),H',⟨by have := HK1.out;first | omega | exact Nat.le_refl _⟩,⟨by (with_reducible repeat (first | refine Zu ?_ _ | refine Zw ?_ | refine Zs ?_ _));refine ZE (cs := #[.int .i64 ((Ze l0 x3_1).f0),.int .i64 ((Ze l0 x3_1).f1),.int .i64 0]) ?_ 2 _ rfl;(with_reducible repeat (first | refine Zu ?_ _ | refine Zw ?_ | refine Zs ?_ _));refine ZE (cs := #[.int .i64 ((Ze l0 x3_1).f0),.int .i64 0,.int .i64 0]) ?_ 1 _ rfl;(with_reducible repeat (first | refine Zu ?_ _ | refine Zw ?_ | refine Zs ?_ _));refine ZE (cs := #[.int .i64 0,.int .i64 0,.int .i64 0]) ?_ 0 _ rfl;(with_reducible repeat (first | refine Zu ?_ _ | refine Zw ?_ | refine Zs ?_ _));exact BK355.out⟩,⟨by repeat (first | (with_reducible first | exact HB.out | apply Zc | apply Za | apply Zb | refine Z9 ?_ GE355.out) | exact HB.out)⟩⟩
                      · rw [if_neg c19] at H
                        have c19b0 : decide (8388607 < ((Ze l0 x3_1).f1)) = false := decide_eq_false c19;clear c19
                        by_cases c21 : ((Ze l0 x3_1).f2) < 0
                        · rw [if_pos c21] at H
                          have c21b0 : decide (((Ze l0 x3_1).f2) < 0) = true := decide_eq_true c21;clear c21;have H' := Zd.mk H;clear H;have hcz22_0 : w5.cell? ⟨gb355,0,none⟩ = some (.int .i64 0) := (Zm BK355.out 0).trans rfl;have hcz22_1 : w5.cell? ⟨gb355,1,none⟩ = some (.int .i64 0) := (Zm BK355.out 1).trans rfl;have hcz22_2 : w5.cell? ⟨gb355,2,none⟩ = some (.int .i64 0) := (Zm BK355.out 2).trans rfl;have hfz22_0 := Zr BK355.out 0;have hfz22_1 := Zr BK355.out 1;have hfz22_2 := Zr BK355.out 2;have p356 : 0 ≤ ((ji12) : Int) := of_decide_eq_true (by first | (with_reducible assumption) | assumption);have q356 : (ji12) < (l0.length : Int) := of_decide_eq_true (by first | (with_reducible assumption) | assumption);obtain ⟨ad356,e356,hx356_0,hx356_1,hx356_2⟩ := Xg HR0.out (ji12) p356 q356
                          obtain rfl : ad354 = ad356 := (by injection e356)
                          have hn356_0 : ad354.block ≠ gb355 := Nat.ne_of_lt (Nat.lt_of_lt_of_le (by have := World.block_lt_of_cell? _ _ hx356_0;first | rwa [Zq] at this | exact this) GW355.out);have hn356_1 : ad354.block ≠ gb355 := Nat.ne_of_lt (Nat.lt_of_lt_of_le (by have := World.block_lt_of_cell? _ _ hx356_0;first | rwa [Zq] at this | exact this) GW355.out);have hn356_2 : ad354.block ≠ gb355 := Nat.ne_of_lt (Nat.lt_of_lt_of_le (by have := World.block_lt_of_cell? _ _ hx356_0;first | rwa [Zq] at this | exact this) GW355.out);replace hx356_0 := (HB.out.cell (World.block_lt_of_cell? w _ hx356_0)).trans hx356_0;replace hx356_1 := (HB.out.cell (World.block_lt_of_cell? w _ hx356_1)).trans hx356_1;replace hx356_2 := (HB.out.cell (World.block_lt_of_cell? w _ hx356_2)).trans hx356_2;replace hx356_0 := (ZL (p := ⟨gb355,0,none⟩) (by first | (rw [Zq];exact hn356_0) | (show (Addr.add _ _).block ≠ _;rw [Zq];exact hn356_0) | exact hn356_0) (.int .i64 ((Ze l0 x3_1).f0))).trans hx356_0;replace hx356_1 := (ZL (p := ⟨gb355,0,none⟩) (by first | (rw [Zq];exact hn356_0) | (show (Addr.add _ _).block ≠ _;rw [Zq];exact hn356_0) | exact hn356_0) (.int .i64 ((Ze l0 x3_1).f0))).trans hx356_1;replace hx356_2 := (ZL (p := ⟨gb355,0,none⟩) (by first | (rw [Zq];exact hn356_0) | (show (Addr.add _ _).block ≠ _;rw [Zq];exact hn356_0) | exact hn356_0) (.int .i64 ((Ze l0 x3_1).f0))).trans hx356_2;replace hx356_0 := (ZL (p := ⟨gb355,1,none⟩) (by first | (rw [Zq];exact hn356_1) | (show (Addr.add _ _).block ≠ _;rw [Zq];exact hn356_1) | exact hn356_1) (.int .i64 ((Ze l0 x3_1).f1))).trans hx356_0;replace hx356_1 := (ZL (p := ⟨gb355,1,none⟩) (by first | (rw [Zq];exact hn356_1) | (show (Addr.add _ _).block ≠ _;rw [Zq];exact hn356_1) | exact hn356_1) (.int .i64 ((Ze l0 x3_1).f1))).trans hx356_1;replace hx356_2 := (ZL (p := ⟨gb355,1,none⟩) (by first | (rw [Zq];exact hn356_1) | (show (Addr.add _ _).block ≠ _;rw [Zq];exact hn356_1) | exact hn356_1) (.int .i64 ((Ze l0 x3_1).f1))).trans hx356_2;replace hx356_0 := (ZL (p := ⟨gb355,2,none⟩) (by first | (rw [Zq];exact hn356_2) | (show (Addr.add _ _).block ≠ _;rw [Zq];exact hn356_2) | exact hn356_2) (.int .i64 ((Ze l0 x3_1).f2))).trans hx356_0;replace hx356_1 := (ZL (p := ⟨gb355,2,none⟩) (by first | (rw [Zq];exact hn356_2) | (show (Addr.add _ _).block ≠ _;rw [Zq];exact hn356_2) | exact hn356_2) (.int .i64 ((Ze l0 x3_1).f2))).trans hx356_1;replace hx356_2 := (ZL (p := ⟨gb355,2,none⟩) (by first | (rw [Zq];exact hn356_2) | (show (Addr.add _ _).block ≠ _;rw [Zq];exact hn356_2) | exact hn356_2) (.int .i64 ((Ze l0 x3_1).f2))).trans hx356_2
                          (try have hy356_0 := fun (n_ : Nat) => (show (((((w5.drewN n_).setCell ⟨gb355,0,none⟩ (.int .i64 ((Ze l0 x3_1).f0))).setCell ⟨gb355,1,none⟩ (.int .i64 ((Ze l0 x3_1).f1))).setCell ⟨gb355,2,none⟩ (.int .i64 ((Ze l0 x3_1).f2)))).cell? _ = some _ from hx356_0))
                          (try have hy356_1 := fun (n_ : Nat) => (show (((((w5.drewN n_).setCell ⟨gb355,0,none⟩ (.int .i64 ((Ze l0 x3_1).f0))).setCell ⟨gb355,1,none⟩ (.int .i64 ((Ze l0 x3_1).f1))).setCell ⟨gb355,2,none⟩ (.int .i64 ((Ze l0 x3_1).f2)))).cell? _ = some _ from hx356_1))
                          (try have hy356_2 := fun (n_ : Nat) => (show (((((w5.drewN n_).setCell ⟨gb355,0,none⟩ (.int .i64 ((Ze l0 x3_1).f0))).setCell ⟨gb355,1,none⟩ (.int .i64 ((Ze l0 x3_1).f1))).setCell ⟨gb355,2,none⟩ (.int .i64 ((Ze l0 x3_1).f2)))).cell? _ = some _ from hx356_2))
                          clear hn356_0;clear hn356_1;clear hn356_2;replace p356 := eq_true p356;replace q356 := eq_true q356
                          go_wp2
                          repeat (go_quiet (fail);try go_wp2)
                          go_meet
                          case rel => exact ⟨_,(true),(by first | rfl | (simp;done) | (simp [*];done)),H',⟨by have := HK1.out;first | omega | exact Nat.le_refl _⟩,⟨by (with_reducible repeat (first | refine Zu ?_ _ | refine Zw ?_ | refine Zs ?_ _));refine ZE (cs := #[.int .i64 ((Ze l0 x3_1).f0),.int .i64 ((Ze l0 x3_1).f1),.int .i64 0]) ?_ 2 _ rfl;(with_reducible repeat (first | refine Zu ?_ _ | refine Zw ?_ | refine Zs ?_ _));refine ZE (cs := #[.int .i64 ((Ze l0 x3_1).f0),.int .i64 0,.int .i64 0]) ?_ 1 _ rfl;(with_reducible repeat (first | refine Zu ?_ _ | refine Zw ?_ | refine Zs ?_ _));refine ZE (cs := #[.int .i64 0,.int .i64 0,.int .i64 0]) ?_ 0 _ rfl;(with_reducible repeat (first | refine Zu ?_ _ | refine Zw ?_ | refine Zs ?_ _));exact BK355.out⟩,⟨by repeat (first | (with_reducible first | exact HB.out | apply Zc | apply Za | apply Zb | refine Z9 ?_ GE355.out) | exact HB.out)⟩⟩
                        · rw [if_neg c21] at H
                          have c21b0 : decide (((Ze l0 x3_1).f2) < 0) = false := decide_eq_false c21;clear c21;have H' := Zd.mk H;clear H;have hcz23_0 : w5.cell? ⟨gb355,0,none⟩ = some (.int .i64 0) := (Zm BK355.out 0).trans rfl;have hcz23_1 : w5.cell? ⟨gb355,1,none⟩ = some (.int .i64 0) := (Zm BK355.out 1).trans rfl;have hcz23_2 : w5.cell? ⟨gb355,2,none⟩ = some (.int .i64 0) := (Zm BK355.out 2).trans rfl;have hfz23_0 := Zr BK355.out 0;have hfz23_1 := Zr BK355.out 1;have hfz23_2 := Zr BK355.out 2;have p356 : 0 ≤ ((ji12) : Int) := of_decide_eq_true (by first | (with_reducible assumption) | assumption);have q356 : (ji12) < (l0.length : Int) := of_decide_eq_true (by first | (with_reducible assumption) | assumption);obtain ⟨ad356,e356,hx356_0,hx356_1,hx356_2⟩ := Xg HR0.out (ji12) p356 q356
                          obtain rfl : ad354 = ad356 := (by injection e356)
                          have hn356_0 : ad354.block ≠ gb355 := Nat.ne_of_lt (Nat.lt_of_lt_of_le (by have := World.block_lt_of_cell? _ _ hx356_0;first | rwa [Zq] at this | exact this) GW355.out);have hn356_1 : ad354.block ≠ gb355 := Nat.ne_of_lt (Nat.lt_of_lt_of_le (by have := World.block_lt_of_cell? _ _ hx356_0;first | rwa [Zq] at this | exact this) GW355.out);have hn356_2 : ad354.block ≠ gb355 := Nat.ne_of_lt (Nat.lt_of_lt_of_le (by have := World.block_lt_of_cell? _ _ hx356_0;first | rwa [Zq] at this | exact this) GW355.out);replace hx356_0 := (HB.out.cell (World.block_lt_of_cell? w _ hx356_0)).trans hx356_0;replace hx356_1 := (HB.out.cell (World.block_lt_of_cell? w _ hx356_1)).trans hx356_1;replace hx356_2 := (HB.out.cell (World.block_lt_of_cell? w _ hx356_2)).trans hx356_2;replace hx356_0 := (ZL (p := ⟨gb355,0,none⟩) (by first | (rw [Zq];exact hn356_0) | (show (Addr.add _ _).block ≠ _;rw [Zq];exact hn356_0) | exact hn356_0) (.int .i64 ((Ze l0 x3_1).f0))).trans hx356_0;replace hx356_1 := (ZL (p := ⟨gb355,0,none⟩) (by first | (rw [Zq];exact hn356_0) | (show (Addr.add _ _).block ≠ _;rw [Zq];exact hn356_0) | exact hn356_0) (.int .i64 ((Ze l0 x3_1).f0))).trans hx356_1;replace hx356_2 := (ZL (p := ⟨gb355,0,none⟩) (by first | (rw [Zq];exact hn356_0) | (show (Addr.add _ _).block ≠ _;rw [Zq];exact hn356_0) | exact hn356_0) (.int .i64 ((Ze l0 x3_1).f0))).trans hx356_2;replace hx356_0 := (ZL (p := ⟨gb355,1,none⟩) (by first | (rw [Zq];exact hn356_1) | (show (Addr.add _ _).block ≠ _;rw [Zq];exact hn356_1) | exact hn356_1) (.int .i64 ((Ze l0 x3_1).f1))).trans hx356_0;replace hx356_1 := (ZL (p := ⟨gb355,1,none⟩) (by first | (rw [Zq];exact hn356_1) | (show (Addr.add _ _).block ≠ _;rw [Zq];exact hn356_1) | exact hn356_1) (.int .i64 ((Ze l0 x3_1).f1))).trans hx356_1;replace hx356_2 := (ZL (p := ⟨gb355,1,none⟩) (by first | (rw [Zq];exact hn356_1) | (show (Addr.add _ _).block ≠ _;rw [Zq];exact hn356_1) | exact hn356_1) (.int .i64 ((Ze l0 x3_1).f1))).trans hx356_2;replace hx356_0 := (ZL (p := ⟨gb355,2,none⟩) (by first | (rw [Zq];exact hn356_2) | (show (Addr.add _ _).block ≠ _;rw [Zq];exact hn356_2) | exact hn356_2) (.int .i64 ((Ze l0 x3_1).f2))).trans hx356_0;replace hx356_1 := (ZL (p := ⟨gb355,2,none⟩) (by first | (rw [Zq];exact hn356_2) | (show (Addr.add _ _).block ≠ _;rw [Zq];exact hn356_2) | exact hn356_2) (.int .i64 ((Ze l0 x3_1).f2))).trans hx356_1;replace hx356_2 := (ZL (p := ⟨gb355,2,none⟩) (by first | (rw [Zq];exact hn356_2) | (show (Addr.add _ _).block ≠ _;rw [Zq];exact hn356_2) | exact hn356_2) (.int .i64 ((Ze l0 x3_1).f2))).trans hx356_2
                          (try have hy356_0 := fun (n_ : Nat) => (show (((((w5.drewN n_).setCell ⟨gb355,0,none⟩ (.int .i64 ((Ze l0 x3_1).f0))).setCell ⟨gb355,1,none⟩ (.int .i64 ((Ze l0 x3_1).f1))).setCell ⟨gb355,2,none⟩ (.int .i64 ((Ze l0 x3_1).f2)))).cell? _ = some _ from hx356_0))
                          (try have hy356_1 := fun (n_ : Nat) => (show (((((w5.drewN n_).setCell ⟨gb355,0,none⟩ (.int .i64 ((Ze l0 x3_1).f0))).setCell ⟨gb355,1,none⟩ (.int .i64 ((Ze l0 x3_1).f1))).setCell ⟨gb355,2,none⟩ (.int .i64 ((Ze l0 x3_1).f2)))).cell? _ = some _ from hx356_1))
                          (try have hy356_2 := fun (n_ : Nat) => (show (((((w5.drewN n_).setCell ⟨gb355,0,none⟩ (.int .i64 ((Ze l0 x3_1).f0))).setCell ⟨gb355,1,none⟩ (.int .i64 ((Ze l0 x3_1).f1))).setCell ⟨gb355,2,none⟩ (.int .i64 ((Ze l0 x3_1).f2)))).cell? _ = some _ from hx356_2))
                          clear hn356_0;clear hn356_1;clear hn356_2;replace p356 := eq_true p356;replace q356 := eq_true q356
                          go_wp2
                          repeat (go_quiet (fail);try go_wp2)
                          go_meet
                          case rel => exact ⟨_,(decide (((Ze l0 x3_1).f2) > 2)),(by first | rfl | (simp;done) | (simp [*];done)),H',⟨by have := HK1.out;first | omega | exact Nat.le_refl _⟩,⟨by (with_reducible repeat (first | refine Zu ?_ _ | refine Zw ?_ | refine Zs ?_ _));refine ZE (cs := #[.int .i64 ((Ze l0 x3_1).f0),.int .i64 ((Ze l0 x3_1).f1),.int .i64 0]) ?_ 2 _ rfl;(with_reducible repeat (first | refine Zu ?_ _ | refine Zw ?_ | refine Zs ?_ _));refine ZE (cs := #[.int .i64 ((Ze l0 x3_1).f0),.int .i64 0,.int .i64 0]) ?_ 1 _ rfl;(with_reducible repeat (first | refine Zu ?_ _ | refine Zw ?_ | refine Zs ?_ _));refine ZE (cs := #[.int .i64 0,.int .i64 0,.int .i64 0]) ?_ 0 _ rfl;(with_reducible repeat (first | refine Zu ?_ _ | refine Zw ?_ | refine Zs ?_ _));exact BK355.out⟩,⟨by repeat (first | (with_reducible first | exact HB.out | apply Zc | apply Za | apply Zb | refine Z9 ?_ GE355.out) | exact HB.out)⟩⟩
                · rw [if_neg c14] at H
                  exact absurd H (by simp)
              · rw [if_neg c13] at H
                exact absurd H (by simp)
            · rw [if_neg c11] at H
              have c11b0 : decide (0 < x3_1) = false := decide_eq_false c11;clear c11
              by_cases c24 : ((Ze l0 x3_1).f1) < (-8388607)
              · rw [if_pos c24] at H
                have c24b0 : decide (((Ze l0 x3_1).f1) < (-8388607)) = true := decide_eq_true c24;clear c24;have H' := Zd.mk H;clear H;have hcz25_0 : w5.cell? ⟨gb355,0,none⟩ = some (.int .i64 0) := (Zm BK355.out 0).trans rfl;have hcz25_1 : w5.cell? ⟨gb355,1,none⟩ = some (.int .i64 0) := (Zm BK355.out 1).trans rfl;have hcz25_2 : w5.cell? ⟨gb355,2,none⟩ = some (.int .i64 0) := (Zm BK355.out 2).trans rfl;have hfz25_0 := Zr BK355.out 0;have hfz25_1 := Zr BK355.out 1;have hfz25_2 := Zr BK355.out 2
                go_wp2
                repeat (go_quiet (fail);try go_wp2)
                go_meet
                case rel => exact ⟨_,(true),(by first | rfl | (simp;done) | (simp [*];done)),H',⟨by have := HK1.out;first | omega | exact Nat.le_refl _⟩,⟨by (with_reducible repeat (first | refine Zu ?_ _ | refine Zw ?_ | refine Zs ?_ _));refine ZE (cs := #[.int .i64 ((Ze l0 x3_1).f0),.int .i64 ((Ze l0 x3_1).f1),.int .i64 0]) ?_ 2 _ rfl;(with_reducible repeat (first | refine Zu ?_ _ | refine Zw ?_ | refine Zs ?_ _));refine ZE (cs := #[.int .i64 ((Ze l0 x3_1).f0),.int .i64 0,.int .i64 0]) ?_ 1 _ rfl;(with_reducible repeat (first | refine Zu ?_ _ | refine Zw ?_ | refine Zs ?_ _));refine ZE (cs := #[.int .i64 0,.int .i64 0,.int .i64 0]) ?_ 0 _ rfl;(with_reducible repeat (first | refine Zu ?_ _ | refine Zw ?_ | refine Zs ?_ _));exact BK355.out⟩,⟨by repeat (first | (with_reducible first | exact HB.out | apply Zc | apply Za | apply Zb | refine Z9 ?_ GE355.out) | exact HB.out)⟩⟩
              · rw [if_neg c24] at H
                have c24b0 : decide (((Ze l0 x3_1).f1) < (-8388607)) = false := decide_eq_false c24;clear c24
                by_cases c26 : ((Ze l0 x3_1).f1) > 8388607
                · rw [if_pos c26] at H
                  have c26b0 : decide (8388607 < ((Ze l0 x3_1).f1)) = true := decide_eq_true c26;clear c26;have H' := Zd.mk H;clear H;have hcz27_0 : w5.cell? ⟨gb355,0,none⟩ = some (.int .i64 0) := (Zm BK355.out 0).trans rfl;have hcz27_1 : w5.cell? ⟨gb355,1,none⟩ = some (.int .i64 0) := (Zm BK355.out 1).trans rfl;have hcz27_2 : w5.cell? ⟨gb355,2,none⟩ = some (.int .i64 0) := (Zm BK355.out 2).trans rfl;have hfz27_0 := Zr BK355.out 0;have hfz27_1 := Zr BK355.out 1;have hfz27_2 := Zr BK355.out 2
                  go_wp2
                  repeat (go_quiet (fail);try go_wp2)
                  go_meet
                  case rel => exact ⟨_,(true),(by first | rfl | (simp;done) | (simp [*];done)),H',⟨by have := HK1.out;first | omega | exact Nat.le_refl _⟩,⟨by (with_reducible repeat (first | refine Zu ?_ _ | refine Zw ?_ | refine Zs ?_ _));refine ZE (cs := #[.int .i64 ((Ze l0 x3_1).f0),.int .i64 ((Ze l0 x3_1).f1),.int .i64 0]) ?_ 2 _ rfl;(with_reducible repeat (first | refine Zu ?_ _ | refine Zw ?_ | refine Zs ?_ _));refine ZE (cs := #[.int .i64 ((Ze l0 x3_1).f0),.int .i64 0,.int .i64 0]) ?_ 1 _ rfl;(with_reducible repeat (first | refine Zu ?_ _ | refine Zw ?_ | refine Zs ?_ _));refine ZE (cs := #[.int .i64 0,.int .i64 0,.int .i64 0]) ?_ 0 _ rfl;(with_reducible repeat (first | refine Zu ?_ _ | refine Zw ?_ | refine Zs ?_ _));exact BK355.out⟩,⟨by repeat (first | (with_reducible first | exact HB.out | apply Zc | apply Za | apply Zb | refine Z9 ?_ GE355.out) | exact HB.out)⟩⟩
                · rw [if_neg c26] at H
                  have c26b0 : decide (8388607 < ((Ze l0 x3_1).f1)) = false := decide_eq_false c26;clear c26
                  by_cases c28 : ((Ze l0 x3_1).f2) < 0
                  · rw [if_pos c28] at H
                    have c28b0 : decide (((Ze l0 x3_1).f2) < 0) = true := decide_eq_true c28;clear c28;have H' := Zd.mk H;clear H;have hcz29_0 : w5.cell? ⟨gb355,0,none⟩ = some (.int .i64 0) := (Zm BK355.out 0).trans rfl;have hcz29_1 : w5.cell? ⟨gb355,1,none⟩ = some (.int .i64 0) := (Zm BK355.out 1).trans rfl;have hcz29_2 : w5.cell? ⟨gb355,2,none⟩ = some (.int .i64 0) := (Zm BK355.out 2).trans rfl;have hfz29_0 := Zr BK355.out 0;have hfz29_1 := Zr BK355.out 1;have hfz29_2 := Zr BK355.out 2
                    go_wp2
                    repeat (go_quiet (fail);try go_wp2)
                    go_meet
                    case rel => exact ⟨_,(true),(by first | rfl | (simp;done) | (simp [*];done)),H',⟨by have := HK1.out;first | omega | exact Nat.le_refl _⟩,⟨by (with_reducible repeat (first | refine Zu ?_ _ | refine Zw ?_ | refine Zs ?_ _));refine ZE (cs := #[.int .i64 ((Ze l0 x3_1).f0),.int .i64 ((Ze l0 x3_1).f1),.int .i64 0]) ?_ 2 _ rfl;(with_reducible repeat (first | refine Zu ?_ _ | refine Zw ?_ | refine Zs ?_ _));refine ZE (cs := #[.int .i64 ((Ze l0 x3_1).f0),.int .i64 0,.int .i64 0]) ?_ 1 _ rfl;(with_reducible repeat (first | refine Zu ?_ _ | refine Zw ?_ | refine Zs ?_ _));refine ZE (cs := #[.int .i64 0,.int .i64 0,.int .i64 0]) ?_ 0 _ rfl;(with_reducible repeat (first | refine Zu ?_ _ | refine Zw ?_ | refine Zs ?_ _));exact BK355.out⟩,⟨by repeat (first | (with_reducible first | exact HB.out | apply Zc | apply Za | apply Zb | refine Z9 ?_ GE355.out) | exact HB.out)⟩⟩
                  · rw [if_neg c28] at H
                    have c28b0 : decide (((Ze l0 x3_1).f2) < 0) = false := decide_eq_false c28;clear c28;have H' := Zd.mk H;clear H;have hcz30_0 : w5.cell? ⟨gb355,0,none⟩ = some (.int .i64 0) := (Zm BK355.out 0).trans rfl;have hcz30_1 : w5.cell? ⟨gb355,1,none⟩ = some (.int .i64 0) := (Zm BK355.out 1).trans rfl;have hcz30_2 : w5.cell? ⟨gb355,2,none⟩ = some (.int .i64 0) := (Zm BK355.out 2).trans rfl;have hfz30_0 := Zr BK355.out 0;have hfz30_1 := Zr BK355.out 1;have hfz30_2 := Zr BK355.out 2
                    go_wp2
                    repeat (go_quiet (fail);try go_wp2)
                    go_meet
                    case rel => exact ⟨_,(decide (((Ze l0 x3_1).f2) > 2)),(by first | rfl | (simp;done) | (simp [*];done)),H',⟨by have := HK1.out;first | omega | exact Nat.le_refl _⟩,⟨by (with_reducible repeat (first | refine Zu ?_ _ | refine Zw ?_ | refine Zs ?_ _));refine ZE (cs := #[.int .i64 ((Ze l0 x3_1).f0),.int .i64 ((Ze l0 x3_1).f1),.int .i64 0]) ?_ 2 _ rfl;(with_reducible repeat (first | refine Zu ?_ _ | refine Zw ?_ | refine Zs ?_ _));refine ZE (cs := #[.int .i64 ((Ze l0 x3_1).f0),.int .i64 0,.int .i64 0]) ?_ 1 _ rfl;(with_reducible repeat (first | refine Zu ?_ _ | refine Zw ?_ | refine Zs ?_ _));refine ZE (cs := #[.int .i64 0,.int .i64 0,.int .i64 0]) ?_ 0 _ rfl;(with_reducible repeat (first | refine Zu ?_ _ | refine Zw ?_ | refine Zs ?_ _));exact BK355.out⟩,⟨by repeat (first | (with_reducible first | exact HB.out | apply Zc | apply Za | apply Zb | refine Z9 ?_ GE355.out) | exact HB.out)⟩⟩
       case rest =>
        clear HC4
        (try clear c1); (try clear c2); (try clear c2b0); (try clear p2); (try clear c3); (try clear c3b0); (try clear p3); (try clear q3); (try clear hx3); (try clear p6); (try clear c7); (try clear c7b0); (try clear c9); (try clear c9b0); (try clear c11); (try clear c11b0); (try clear c13); (try clear c13b0); (try clear c14); (try clear c14b0); (try clear c15); (try clear c15b0); (try clear c17); (try clear c17b0); (try clear c19); (try clear c19b0); (try clear c21); (try clear c21b0); (try clear c24); (try clear c24b0); (try clear c26); (try clear c26b0); (try clear c28); (try clear c28b0); (try clear hcz10_0); (try clear hcz10_1); (try clear hcz10_2); (try clear hcz16_0); (try clear hcz16_1); (try clear hcz16_2); (try clear hcz18_0); (try clear hcz18_1); (try clear hcz18_2); (try clear hcz20_0); (try clear hcz20_1); (try clear hcz20_2); (try clear hcz22_0); (try clear hcz22_1); (try clear hcz22_2); (try clear hcz23_0); (try clear hcz23_1); (try clear hcz23_2); (try clear hcz25_0); (try clear hcz25_1); (try clear hcz25_2); (try clear hcz27_0); (try clear hcz27_1); (try clear hcz27_2); (try clear hcz29_0); (try clear hcz29_1); (try clear hcz29_2); (try clear hcz30_0); (try clear hcz30_1); (try clear hcz30_2); (try clear hcz6_0); (try clear hcz6_1); (try clear hcz6_2); (try clear hcz8_0); (try clear hcz8_1); (try clear hcz8_2); (try clear hfz10_0); (try clear hfz10_1); (try clear hfz10_2); (try clear hfz16_0); (try clear hfz16_1); (try clear hfz16_2); (try clear hfz18_0); (try clear hfz18_1); (try clear hfz18_2); (try clear hfz20_0); (try clear hfz20_1); (try clear hfz20_2); (try clear hfz22_0); (try clear hfz22_1); (try clear hfz22_2); (try clear hfz23_0); (try clear hfz23_1); (try clear hfz23_2); (try clear hfz25_0); (try clear hfz25_1); (try clear hfz25_2); (try clear hfz27_0); (try clear hfz27_1); (try clear hfz27_2); (try clear hfz29_0); (try clear hfz29_1); (try clear hfz29_2); (try clear hfz30_0); (try clear hfz30_1); (try clear hfz30_2); (try clear hfz6_0); (try clear hfz6_1); (try clear hfz6_2); (try clear hfz8_0); (try clear hfz8_1); (try clear hfz8_2); (try clear hx354_0); (try clear hx354_1); (try clear hx354_2); (try clear hx356_0); (try clear hx356_1); (try clear hx356_2); (try clear p354); (try clear p356); (try clear q354); (try clear q356)
        obtain ⟨kq,x57_3,rfl,HA,HJ3,BK355,HB⟩ := hcut
        cases kq with
        | zero => exact absurd HA.out (by simp [Zg.j1])
        | succ kj3 =>
         have H := HA.out;clear HA;simp only [Zg.j1] at H
         by_cases c31 : x57_3 = true
         · subst c31
           have H1 : (some false) = some r := by rw [if_pos rfl] at H;exact H
           clear H;have H := H1;clear H1;obtain rfl := Option.some.inj H
           go_wp2
           repeat (go_quiet (fail);try go_wp2)
           go_ret;exact ⟨by first | rfl | (simp [Zt,Zv] <;> rfl) | (simp [*,Zt,Zv] <;> rfl),by repeat (first | (with_reducible first | exact HB.out | apply Zc | apply Za | apply Zb | refine Z9 ?_ GE355.out) | exact HB.out)⟩
         · replace c31 := Bool.eq_false_iff.mpr c31
           subst c31
           have H1 : (if ((Ze l0 x3_1).f2) = 2 then (if (wrap64 (x3_1 + 1)) < (l0.length : Int) then (if 0 ≤ (wrap64 (x3_1 + 1)) then (if (wrap64 (((Ze l0 (wrap64 (x3_1 + 1))).f0) - ((Ze l0 x3_1).f0))) > 1000 then (some false) else (Zg.l0 kj3 l0 (wrap64 (x3_1 + 1)))) else (none)) else (Zg.l0 kj3 l0 (wrap64 (x3_1 + 1)))) else (Zg.l0 kj3 l0 (wrap64 (x3_1 + 1)))) = some r := by rw [if_neg (show ¬ (false = true) by decide)] at H;exact H
           clear H;have H := H1;clear H1
           by_cases c32 : ((Ze l0 x3_1).f2) = 2
           · rw [if_pos c32] at H
             have c32b0 : (((Ze l0 x3_1).f2) == 2) = true := beq_iff_eq.mpr c32;have c32b1 : (((Ze l0 x3_1).f2) != 2) = false := bne_eq_false_iff_eq.mpr c32;clear c32
             by_cases c33 : (wrap64 (x3_1 + 1)) < (l0.length : Int)
             · rw [if_pos c33] at H
               have c33b0 : decide ((wrap64 (x3_1 + 1)) < (l0.length : Int)) = true := decide_eq_true c33;clear c33
               obtain ⟨ji34,hji34⟩ : ∃ j_ : Int,(wrap64 (x3_1 + 1)) = j_ := ⟨_,rfl⟩
               replace H : (if 0 ≤ (ji34) then (if (wrap64 (((Ze l0 (ji34)).f0) - ((Ze l0 x3_1).f0))) > 1000 then (some false) else (Zg.l0 kj3 l0 ji34)) else (none)) = some r := by first | (rw [hji34] at H;exact H) | (simp only [hji34] at H ⊢;exact H)
               (try rw [hji34] at c33b0)
               have hji34w : (IntKind.i64.wrap (x3_1 + 1)) = ji34 := (i64_w _).trans hji34
               by_cases c35 : 0 ≤ (ji34)
               · rw [if_pos c35] at H
                 have c35b0 : decide (0 ≤ (ji34)) = true := decide_eq_true c35;clear c35
                 by_cases c36 : (wrap64 (((Ze l0 (ji34)).f0) - ((Ze l0 x3_1).f0))) > 1000
                 · rw [if_pos c36] at H
                   have c36b0 : decide (1000 < (wrap64 (((Ze l0 (ji34)).f0) - ((Ze l0 x3_1).f0)))) = true := decide_eq_true c36;clear c36;obtain rfl := Option.some.inj H;have hcz37_0 : wc.cell? ⟨gb355,0,none⟩ = some (.int .i64 ((Ze l0 x3_1).f0)) := (Zm BK355.out 0).trans rfl;have hcz37_1 : wc.cell? ⟨gb355,1,none⟩ = some (.int .i64 ((Ze l0 x3_1).f1)) := (Zm BK355.out 1).trans rfl;have hcz37_2 : wc.cell? ⟨gb355,2,none⟩ = some (.int .i64 ((Ze l0 x3_1).f2)) := (Zm BK355.out 2).trans rfl;have hfz37_0 := Zr BK355.out 0;have hfz37_1 := Zr BK355.out 1;have hfz37_2 := Zr BK355.out 2;have p357 : 0 ≤ ((ji34) : Int) := of_decide_eq_true (by first | (with_reducible assumption) | assumption);have q357 : (ji34) < (l0.length : Int) := of_decide_eq_true (by first | (with_reducible assumption) | assumption);obtain ⟨ad357,e357,hx357_0,hx357_1,hx357_2⟩ := Xg HR0.out (ji34) p357 q357
                   obtain rfl : ad354 = ad357 := (by injection e357)
                   replace hx357_0 := (HB.out.cell (World.block_lt_of_cell? w _ hx357_0)).trans hx357_0;replace hx357_1 := (HB.out.cell (World.block_lt_of_cell? w _ hx357_1)).trans hx357_1;replace hx357_2 := (HB.out.cell (World.block_lt_of_cell? w _ hx357_2)).trans hx357_2;replace p357 := eq_true p357;replace q357 := eq_true q357
                   go_wp2
                   repeat (go_quiet (fail);try go_wp2)
                   go_ret;exact ⟨by first | rfl | (simp [Zt,Zv] <;> rfl) | (simp only [← hji34];first | rfl | (simp [Zt,Zv] <;> rfl)) | (simp [*,Zt,Zv] <;> rfl),by repeat (first | (with_reducible first | exact HB.out | apply Zc | apply Za | apply Zb | refine Z9 ?_ GE355.out) | exact HB.out)⟩
                 · rw [if_neg c36] at H
                   have c36b0 : decide (1000 < (wrap64 (((Ze l0 (ji34)).f0) - ((Ze l0 x3_1).f0)))) = false := decide_eq_false c36;clear c36;have H' := Zd.mk H;clear H;have hcz38_0 : wc.cell? ⟨gb355,0,none⟩ = some (.int .i64 ((Ze l0 x3_1).f0)) := (Zm BK355.out 0).trans rfl;have hcz38_1 : wc.cell? ⟨gb355,1,none⟩ = some (.int .i64 ((Ze l0 x3_1).f1)) := (Zm BK355.out 1).trans rfl;have hcz38_2 : wc.cell? ⟨gb355,2,none⟩ = some (.int .i64 ((Ze l0 x3_1).f2)) := (Zm BK355.out 2).trans rfl;have hfz38_0 := Zr BK355.out 0;have hfz38_1 := Zr BK355.out 1;have hfz38_2 := Zr BK355.out 2;have p357 : 0 ≤ ((ji34) : Int) := of_decide_eq_true (by first | (with_reducible assumption) | assumption);have q357 : (ji34) < (l0.length : Int) := of_decide_eq_true (by first | (with_reducible assumption) | assumption);obtain ⟨ad357,e357,hx357_0,hx357_1,hx357_2⟩ := Xg HR0.out (ji34) p357 q357
                   obtain rfl : ad354 = ad357 := (by injection e357)
                   replace hx357_0 := (HB.out.cell (World.block_lt_of_cell? w _ hx357_0)).trans hx357_0;replace hx357_1 := (HB.out.cell (World.block_lt_of_cell? w _ hx357_1)).trans hx357_1;replace hx357_2 := (HB.out.cell (World.block_lt_of_cell? w _ hx357_2)).trans hx357_2;replace p357 := eq_true p357;replace q357 := eq_true q357
                   go_wp2
                   repeat (go_quiet (fail);try go_wp2)
                   go_roundg kj3
                   case measure => have := HK1.out;have := HJ3.out;omega
                   case rel => exact ⟨(ji34),(by first | rfl | (simp;done) | (simp only [← hji34] <;> (first | rfl | simp)) | (simp [*];done)),H',⟨by have := HK1.out;have := HJ3.out;omega⟩,⟨by repeat (first | (with_reducible first | exact HB.out | apply Zc | apply Za | apply Zb | refine Z9 ?_ GE355.out) | exact HB.out)⟩⟩
               · rw [if_neg c35] at H
                 exact absurd H (by simp)
             · rw [if_neg c33] at H
               have c33b0 : decide ((wrap64 (x3_1 + 1)) < (l0.length : Int)) = false := decide_eq_false c33;clear c33;have H' := Zd.mk H;clear H;have hcz39_0 : wc.cell? ⟨gb355,0,none⟩ = some (.int .i64 ((Ze l0 x3_1).f0)) := (Zm BK355.out 0).trans rfl;have hcz39_1 : wc.cell? ⟨gb355,1,none⟩ = some (.int .i64 ((Ze l0 x3_1).f1)) := (Zm BK355.out 1).trans rfl;have hcz39_2 : wc.cell? ⟨gb355,2,none⟩ = some (.int .i64 ((Ze l0 x3_1).f2)) := (Zm BK355.out 2).trans rfl;have hfz39_0 := Zr BK355.out 0;have hfz39_1 := Zr BK355.out 1;have hfz39_2 := Zr BK355.out 2
               go_wp2
               repeat (go_quiet (fail);try go_wp2)
               go_roundg kj3
               case measure => have := HK1.out;have := HJ3.out;omega
               case rel => exact ⟨(wrap64 (x3_1 + 1)),(by first | rfl | (simp;done) | (simp [*];done)),H',⟨by have := HK1.out;have := HJ3.out;omega⟩,⟨by repeat (first | (with_reducible first | exact HB.out | apply Zc | apply Za | apply Zb | refine Z9 ?_ GE355.out) | exact HB.out)⟩⟩
           · rw [if_neg c32] at H
             have c32b0 : (((Ze l0 x3_1).f2) == 2) = false := beq_eq_false_iff_ne.mpr c32;have c32b1 : (((Ze l0 x3_1).f2) != 2) = true := bne_iff_ne.mpr c32;have H' := Zd.mk H;clear H;have hcz40_0 : wc.cell? ⟨gb355,0,none⟩ = some (.int .i64 ((Ze l0 x3_1).f0)) := (Zm BK355.out 0).trans rfl;have hcz40_1 : wc.cell? ⟨gb355,1,none⟩ = some (.int .i64 ((Ze l0 x3_1).f1)) := (Zm BK355.out 1).trans rfl;have hcz40_2 : wc.cell? ⟨gb355,2,none⟩ = some (.int .i64 ((Ze l0 x3_1).f2)) := (Zm BK355.out 2).trans rfl;have hfz40_0 := Zr BK355.out 0;have hfz40_1 := Zr BK355.out 1;have hfz40_2 := Zr BK355.out 2
             go_wp2
             repeat (go_quiet (fail);try go_wp2)
             go_roundg kj3
             case measure => have := HK1.out;have := HJ3.out;omega
             case rel => exact ⟨(wrap64 (x3_1 + 1)),(by first | rfl | (simp;done) | (simp [*];done)),H',⟨by have := HK1.out;have := HJ3.out;omega⟩,⟨by repeat (first | (with_reducible first | exact HB.out | apply Zc | apply Za | apply Zb | refine Z9 ?_ GE355.out) | exact HB.out)⟩⟩
     · rw [if_neg c3] at H
       exact absurd H (by simp)
   · rw [if_neg c2] at H
     have c2b0 : decide (x3_1 < (l0.length : Int)) = false := decide_eq_false c2;clear c2
     by_cases c41 : (l0.length : Int) ≥ 1
     · rw [if_pos c41] at H
       have c41b0 : decide (1 ≤ (l0.length : Int)) = true := decide_eq_true c41;have c41b1 : decide (1 ≤ l0.length) = true := decide_eq_true (by omega);clear c41;obtain rfl := Option.some.inj H
       go_wp2
       repeat (go_quiet (fail);try go_wp2)
       go_ret;exact ⟨by first | rfl | (simp [Zt,Zv] <;> rfl) | (simp [*,Zt,Zv] <;> rfl),by repeat (first | (with_reducible first | exact HB.out | apply Zc | apply Za | apply Zb) | exact HB.out)⟩
     · rw [if_neg c41] at H
       have c41b0 : decide (1 ≤ (l0.length : Int)) = false := decide_eq_false c41;have c41b1 : decide (1 ≤ l0.length) = false := decide_eq_false (by omega);clear c41;obtain rfl := Option.some.inj H
       go_wp2
       repeat (go_quiet (fail);try go_wp2)
       go_ret;exact ⟨by first | rfl | (simp [Zt,Zv] <;> rfl) | (simp [*,Zt,Zv] <;> rfl),by repeat (first | (with_reducible first | exact HB.out | apply Zc | apply Za | apply Zb) | exact HB.out)⟩
end Go.Proofs.Ytomlfbmfdoallaa.PA

namespace Go.Proofs.Ytomlfbmfdoallaa.PA
open Go.RowKit Go.Proofs.YtomlfbmfdoallaaW.PrintWords Go.Proofs.YtomlfbmfdoallaaW.PrintLast Go.Proofs.YtomlfbmfdoallaaW.PrintMore
set_option linter.unusedVariables false
set_option linter.unusedSimpArgs false
def shp (s n d L : Int) : Int := if s = 0 then 0 else if s = 1 then rnd (n * d) L else rnd (n * (3 * d * d * L - 2 * d * d * d)) (L * L * L)
theorem shapes1_calls (n d L : Int) (w : World) : Calls Try.prog 80 #[.int .i64 n,.int .i64 d,.int .i64 L] w fun e w' => e = .returned (.int .i64 0) ∧ Below w.heap.size w w' := by
 go_enter Try.func80,Try.ntmps80
 go_wp2
 go_ret;exact ⟨rfl,Below.refl _ _⟩
set_option maxRecDepth 100000 in
theorem shapes2_calls (n d L : Int) (w : World) (h0 : 0 ≤ d) (h1 : d < L) (h2 : L ≤ 1000000000) (h3 : -16777214 ≤ n) (h4 : n ≤ 16777214) :
 Calls Try.prog 81 #[.int .i64 n,.int .i64 d,.int .i64 L] w fun e w' => e = .returned (.int .i64 (rnd (n * d) L)) ∧ Below w.heap.size w w' := by
 have b1 : n * d ≤ 16777214 * 1000000000 := by
  have := Int.mul_le_mul_of_nonneg_right h4 h0;omega
 have b2 : -(16777214 * 1000000000) ≤ n * d := by
  have := Int.mul_le_mul_of_nonneg_right h3 h0;omega
 have hf : Xl.f (wrap64 (n * d)) L = some (rnd (n * d) L) := by
  rw [w64 (x := n * d) (by omega) (by omega)];exact Xl.eq (n * d) L (by omega) (by omega) (by omega) (by omega)
 have HC := Lib.hid (Xl.calls (wrap64 (n * d)) L _ w hf);clear hf b1 b2 h0 h1 h2 h3 h4
 go_enter Try.func81,Try.ntmps81
 go_wp2_with (go_at_call 44;refine HC.out.mono ?_;rintro e w' ⟨rfl,hb⟩)
 go_ret;exact ⟨rfl,hb.below⟩
theorem Ql (n d L : Int) (h0 : 0 ≤ d) (h1 : d < L) (h2 : L ≤ 1000) (h3 : -16777214 ≤ n) (h4 : n ≤ 16777214) :
 wrap64 (n * wrap64 (wrap64 (wrap64 (wrap64 (3 * d) * d) * L) - wrap64 (wrap64 (wrap64 (2 * d) * d) * d))) = n * (3 * d * d * L - 2 * d * d * d) ∧ wrap64 (wrap64 (L * L) * L) = L * L * L ∧
 -100000000000000000 ≤ n * (3 * d * d * L - 2 * d * d * d) ∧ n * (3 * d * d * L - 2 * d * d * d) ≤ 100000000000000000 ∧ 0 < L * L * L ∧ L * L * L ≤ 1000000000 := by
 have a1 := mulb (n := 3 * d) (N := 3000) (p := d) (P := 1000) (by omega) (by omega) h0 (by omega);have a2 := mulb (n := 3 * d * d) (N := 3000000) (p := L) (P := 1000) a1.1 (by omega) (by omega) h2;have a3 := mulb (n := 2 * d) (N := 2000) (p := d) (P := 1000) (by omega) (by omega) h0 (by omega);have a4 := mulb (n := 2 * d * d) (N := 2000000) (p := d) (P := 1000) a3.1 (by omega) h0 (by omega);have a5 := mulb (n := L) (N := 1000) (p := L) (P := 1000) (by omega) (by omega) (by omega) h2;have a6 := mulb (n := L * L) (N := 1000000) (p := L) (P := 1000) a5.1 (by omega) (by omega) h2
 have a7 : 1 ≤ L * L := by have := Int.mul_le_mul (show 1 ≤ L by omega) (show 1 ≤ L by omega) (by omega) (by omega);omega
 have a8 : 1 ≤ L * L * L := by have := Int.mul_le_mul a7 (show 1 ≤ L by omega) (by omega) (by omega);omega
 rw [w64 (x := 3 * d) (by omega) (by omega),w64 (x := 3 * d * d) (by omega) (by omega),w64 (x := 3 * d * d * L) (by omega) (by omega),w64 (x := 2 * d) (by omega) (by omega),w64 (x := 2 * d * d) (by omega) (by omega),w64 (x := 2 * d * d * d) (by omega) (by omega),w64 (x := L * L) (by omega) (by omega),w64 (x := L * L * L) (by omega) (by omega)];generalize hm : 3 * d * d * L - 2 * d * d * d = m
 have m1 : -2000000000 ≤ m := by omega
 have m2 : m ≤ 3000000000 := by omega
 have c1 : n * m ≤ 100000000000000000 ∧ -100000000000000000 ≤ n * m := by
  by_cases hz : 0 ≤ m
  · have x1 := Int.mul_le_mul_of_nonneg_right h4 hz
    have x2 := Int.mul_le_mul_of_nonneg_right h3 hz;omega
  · have x1 := Int.mul_le_mul_of_nonneg_right h4 (show 0 ≤ -m by omega)
    have x2 := Int.mul_le_mul_of_nonneg_right h3 (show 0 ≤ -m by omega);rw [Int.mul_neg,Int.mul_neg] at x1 x2;omega
 have e0 : wrap64 (3 * d * d * L - 2 * d * d * d) = m := by rw [hm];exact w64 (by omega) (by omega)
 exact ⟨by rw [w64 (x := m) (by omega) (by omega)];exact w64 (by omega) (by omega),rfl,c1.2,c1.1,by omega,by omega⟩
set_option maxRecDepth 100000 in
theorem shapes3_calls (n d L : Int) (w : World) (h0 : 0 ≤ d) (h1 : d < L) (h2 : L ≤ 1000) (h3 : -16777214 ≤ n) (h4 : n ≤ 16777214) :
 Calls Try.prog 82 #[.int .i64 n,.int .i64 d,.int .i64 L] w fun e w' => e = .returned (.int .i64 (rnd (n * (3 * d * d * L - 2 * d * d * d)) (L * L * L))) ∧ Below w.heap.size w w' := by
 obtain ⟨e1,e2,e3,e4,e5,e6⟩ := Ql n d L h0 h1 h2 h3 h4;have hf := Xl.eq (n * (3 * d * d * L - 2 * d * d * d)) (L * L * L) (by omega) (by omega) (by omega) (by omega);rw [← e1,← e2] at hf;rw [← e1,← e2];have HC := Lib.hid (Xl.calls _ _ _ w hf);clear hf e1 e2 e3 e4 e5 e6 h0 h1 h2 h3 h4
 go_enter Try.func82,Try.ntmps82
 go_wp2_with (go_at_call 44;refine HC.out.mono ?_;rintro e w' ⟨rfl,hb⟩)
 go_ret;exact ⟨rfl,hb.below⟩
set_option maxRecDepth 100000 in
theorem Qg (w : World) : Calls Try.prog 75 #[] w fun e w' => e = .returned (.agg #[.func (.func 80) #[] #[],.func (.func 81) #[] #[],.func (.func 82) #[] #[]]) ∧ Below w.heap.size w w' := by
 go_enter Try.func75,Try.ntmps75
 go_wp2
 have HS := Blk.new w #[.func (.func 80) #[] #[],.func (.func 81) #[] #[],.func (.func 82) #[] #[]] 96;have g0 := HS.cell 0 (v := .func (.func 80) #[] #[]) rfl;have g1 := HS.cell 1 (v := .func (.func 81) #[] #[]) rfl;have g2 := HS.cell 2 (v := .func (.func 82) #[] #[]) rfl;refine bodyPost_ret (v := .agg #[.func (.func 80) #[] #[],.func (.func 81) #[] #[],.func (.func 82) #[] #[]]) (by simp [results,Try.results75,go_sem,g0,g1,g2]) rfl ⟨rfl,?_⟩;exact (Below.refl _ w).alloc (Nat.le_refl _) _
theorem Q8 (l : List S56) (k : Nat) (h : k < l.length) : l[k]? = some (Ze l k) := by
 rw [List.getElem?_eq_getElem h];simp [Ze,h]
def c56 (x : S56) : Array Value := #[.int .i64 x.f0,.int .i64 x.f1,.int .i64 x.f2]
set_option maxRecDepth 100000 in
set_option maxHeartbeats 2000000 in
theorem Qe (p : S56 → Bool) (g : Nat) (lb : Array Value) (eg : ∀ args w,(callFunc g args).run Try.prog w = .ok (.enter g args) w) (A : Option Addr) (c : Nat) (l : List S56) (w : World)
 (hp : PredB g lb (fun x => .agg (c56 x)) p w) (hr : Kd.C k56 w A l.length l) :
 Calls Try.prog 73 #[.slice A l.length c,.func (.func g) #[] lb] w fun e w' => e = .returned (.int .i64 (idxOf p l)) ∧ Below w.heap.size w w' := by
 have HR := Zd.mk hr;have HP := Zd.mk hp;have hmax : l.length ≤ 9223372036854775807 := Kd.C_max hr;clear hr hp
 go_enter Try.func73,Try.ntmps73
 go_wp2
 go_loopg [5,8] l.length (fun gg _ s8 wr => ∃ kk : Nat,kk ≤ l.length ∧ l.length - kk ≤ gg ∧ s8 = .int .i64 kk ∧ Zd (Below w.heap.size w wr) ∧ Zd (idxOf p l = idxFrom p kk (l.drop kk)))
 case atStart => exact ⟨0,Nat.zero_le _,by omega,rfl,⟨Below.refl _ w⟩,⟨by simp [idxOf]⟩⟩
 case round =>
  obtain ⟨kk,hkk,hg,rfl,BW,AI⟩ := hrel
  by_cases hlt : kk < l.length
  · have hltz : (kk : Int) < (l.length : Int) := by omega
    obtain ⟨ad,eA,hx0,hx1,hx2⟩ := Xg (Kd.ZK HR.out BW.out) (kk : Int) (by omega) (by omega)
    cases eA
    simp only [Int.toNat_natCast] at hx0 hx1 hx2;have hcall := HP.out wr (Ze l kk) BW.out;unfold c56 at hcall;generalize hy : Ze l (kk : Int) = y at hx0 hx1 hx2 hcall;have B := Zd.mk hy;clear hy
    cases hq : p y with
    | true =>
     rw [hq] at hcall
     go_wp2_with (go_at_fn g;refine hcall.mono ?_;rintro e w' ⟨rfl,hb'⟩)
     go_ret;exact ⟨Q3 (by rw [AI.out,Qd p l kk y kk (by rw [Q8 _ _ hlt,B.out]) hq]),BW.out.trans (hb'.mono BW.out.size)⟩
    | false =>
     rw [hq] at hcall
     go_wp2_with (go_at_fn g;refine hcall.mono ?_;rintro e w' ⟨rfl,hb'⟩)
     go_roundg (l.length - (kk + 1))
     case measure => omega
     case rel => exact ⟨kk + 1,by omega,by omega,by go_num,⟨BW.out.trans (hb'.mono BW.out.size)⟩,⟨by rw [AI.out,XX p l kk y kk (by rw [Q8 _ _ hlt,B.out]) hq];simp⟩⟩
  · have hltz : ¬ (kk : Int) < (l.length : Int) := by omega
    go_wp2
    go_ret;exact ⟨Q3 (by rw [AI.out,List.drop_eq_nil_of_le (by omega)];rfl),BW.out⟩
theorem enters74 : ∀ args w,(callFunc 74 args).run Try.prog w = .ok (.enter 74 args) w := Go.Proofs.enters_of Try.func74 (by kernel_rfl) rfl
theorem value1_calls (x : S56) (b : Nat) (n : Int) (W : World) (hb : W.cell? ⟨b,0,none⟩ = some (.int .i64 n)) :
 Calls Try.prog 74 #[.agg (c56 x),.pointer (some ⟨b,0,none⟩)] W fun e w' => e = .returned (.bool (decide (x.f0 > n))) ∧ Below W.heap.size W w' := by
 have l1 : b < W.heap.size := World.block_lt_of_cell? _ _ hb;unfold c56
 go_enter Try.func74,Try.ntmps74
 go_wp2
 go_ret;exact ⟨rfl,(Below.refl _ _).alloc (Nat.le_refl _) _⟩
end Go.Proofs.Ytomlfbmfdoallaa.PA

namespace Go.Proofs.Ytomlfbmfdoallaa.PA
open Go.RowKit Go.Shelf Go.Proofs.YtomlfbmfdoallaaW.PrintWords Go.Proofs.YtomlfbmfdoallaaW.PrintLast Go.Proofs.YtomlfbmfdoallaaW.PrintMore
set_option linter.unusedVariables false
set_option linter.unusedSimpArgs false
def okC (t : S56) : Bool := decide (0 ≤ t.f0) && decide (t.f0 ≤ 1000000000) && (decide (-8388607 ≤ t.f1) && decide (t.f1 ≤ 8388607)) && (decide (0 ≤ t.f2) && decide (t.f2 ≤ 2))
def curveFromB : List S56 → Bool
 | [] => true
 | [t] => okC t
 | t :: t2 :: r => okC t && decide (t.f0 < t2.f0) && (decide (t.f2 ≠ 2) || decide (t2.f0 - t.f0 ≤ 1000)) && curveFromB (t2 :: r)
def curveB (l : List S56) : Bool := decide (1 ≤ l.length) && decide (l.length ≤ 100) && curveFromB l
def vfrom : List S56 → Int → Int
 | [],_ => 0
 | [t],_ => t.f1
 | t :: t2 :: r,k => if t2.f0 ≤ k then vfrom (t2 :: r) k else t.f1 + shp t.f2 (t2.f1 - t.f1) (k - t.f0) (t2.f0 - t.f0)
def valAt (l : List S56) (k : Int) : Int := if k < (Ze l 0).f0 then (Ze l 0).f1 else vfrom l k
def Xt.f (l0 : List S56) (a1 : Int) : Option Int := if curveB l0 = true ∧ 0 ≤ a1 ∧ a1 ≤ 1000000000 then some (valAt l0 a1) else none
theorem Qr (t : S56) : okC t = true ↔ 0 ≤ t.f0 ∧ t.f0 ≤ 1000000000 ∧ -8388607 ≤ t.f1 ∧ t.f1 ≤ 8388607 ∧ 0 ≤ t.f2 ∧ t.f2 ≤ 2 := by simp [okC,and_assoc]
structure Seg (a b : S56) (k : Int) : Prop where
 a0 : 0 ≤ a.f0
 ak : a.f0 ≤ k
 kb : k < b.f0
 b0 : b.f0 ≤ 1000000000
 v0 : -8388607 ≤ a.f1
 v1 : a.f1 ≤ 8388607
 u0 : -8388607 ≤ b.f1
 u1 : b.f1 ≤ 8388607
 s0 : 0 ≤ a.f2
 s1 : a.f2 ≤ 2
 sm : a.f2 = 2 → b.f0 - a.f0 ≤ 1000
theorem XL {t t2 : S56} {r : List S56} (h : curveFromB (t :: t2 :: r) = true) : okC t = true ∧ t.f0 < t2.f0 ∧ (t.f2 = 2 → t2.f0 - t.f0 ≤ 1000) ∧ curveFromB (t2 :: r) = true := by
 simp only [curveFromB,Bool.and_eq_true,decide_eq_true_eq,Bool.or_eq_true] at h;exact ⟨h.1.1.1,h.1.1.2,fun e => h.1.2.resolve_left (fun n => n e),h.2⟩
theorem XU {t : S56} {r : List S56} (h : curveFromB (t :: r) = true) : okC t = true := by
 cases r with
 | nil => exact h
 | cons t2 r => exact (XL h).1
theorem XI {α : Type} (p : α → Bool) : ∀ (l : List α) (i : Int),idxFrom p i l = if l.any p then i + idxFrom p 0 l else -1
 | [],i => rfl
 | x :: xs,i => by
  have h1 := XI p xs (i + 1);have h2 := XI p xs (0 + 1);unfold idxFrom
  cases h : p x with
  | true => simp [h]
  | false =>
   simp only [h,List.any_cons,Bool.false_or,Bool.false_eq_true,if_false];rw [h1,h2];split
   · omega
   · rfl
theorem QV (k : Int) : ∀ (l : List S56) (hne : l ≠ []),curveFromB l = true → (∀ t,l.head? = some t → t.f0 ≤ k) →
 (idxOf (fun x : S56 => decide (x.f0 > k)) l = -1 ∧ vfrom l k = (l.getLast hne).f1) ∨
 (∃ (m : Nat) (a b : S56),idxOf (fun x : S56 => decide (x.f0 > k)) l = (m : Int) + 1 ∧ l[m]? = some a ∧ l[m + 1]? = some b ∧ vfrom l k = a.f1 + shp a.f2 (b.f1 - a.f1) (k - a.f0) (b.f0 - a.f0) ∧ Seg a b k)
 | [],h,_,_ => absurd rfl h
 | [t],_,hc,hh => by
  have ht := hh t rfl;left;refine ⟨?_,rfl⟩;simp [idxOf,idxFrom,show ¬ k < t.f0 by omega]
 | t :: t2 :: r,_,hc,hh => by
  have ht := hh t rfl;obtain ⟨h1,h2,h3,h4⟩ := XL hc
  have e0 : idxOf (fun x : S56 => decide (x.f0 > k)) (t :: t2 :: r) = idxFrom (fun x : S56 => decide (x.f0 > k)) (0 + 1) (t2 :: r) := by
   show idxFrom _ 0 (t :: t2 :: r) = _
   conv => lhs;unfold idxFrom
   simp [show ¬ k < t.f0 by omega]
  by_cases hk : t2.f0 ≤ k
  · have hv : vfrom (t :: t2 :: r) k = vfrom (t2 :: r) k := by simp [vfrom,hk]
    have hs := XI (fun x : S56 => decide (x.f0 > k)) (t2 :: r) (0 + 1)
    rcases QV k (t2 :: r) (by simp) h4 (fun x e => by cases e;exact hk) with ⟨q1,q2⟩ | ⟨m,a,b,q1,q2,q3,q4,q5⟩
    · left
      refine ⟨?_,by rw [hv,q2];congr 1⟩;rw [e0,hs];have q1' : idxFrom (fun x : S56 => decide (x.f0 > k)) 0 (t2 :: r) = -1 := q1;have hs0 := XI (fun x : S56 => decide (x.f0 > k)) (t2 :: r) 0;split
      · rename_i hany
        exfalso;have hn := XY (fun x : S56 => decide (x.f0 > k)) (t2 :: r) 0 (by omega);rw [q1',hany] at hn;simp at hn
      · rfl
    · right
      refine ⟨m + 1,a,b,?_,by simpa using q2,by simpa using q3,by rw [hv];exact q4,q5⟩;have q1' : idxFrom (fun x : S56 => decide (x.f0 > k)) 0 (t2 :: r) = (m : Int) + 1 := q1;have hn := XY (fun x : S56 => decide (x.f0 > k)) (t2 :: r) 0 (by omega);rw [q1'] at hn
      have hany : (t2 :: r).any (fun x : S56 => decide (x.f0 > k)) = true := by rw [← hn];simp;omega
      rw [e0,hs,if_pos hany,q1']
      push_cast
      omega
  · right
    refine ⟨0,t,t2,?_,rfl,rfl,by simp [vfrom,hk],?_⟩
    · rw [e0]
      unfold idxFrom;simp [show k < t2.f0 by omega]
    · have o1 := (Qr t).1 h1
      have o2 := (Qr t2).1 (XU h4);exact ⟨o1.1,ht,by omega,o2.2.1,o1.2.2.1,o1.2.2.2.1,o2.2.2.1,o2.2.2.2.1,o1.2.2.2.2.1,o1.2.2.2.2.2,h3⟩
theorem XB (W : World) (o : Obj) (a : Addr) (h : ¬ a.block = W.heap.size) : (W.alloc o).cell? a = W.cell? a := by
 have e : (W.alloc o).heap[a.block]? = W.heap[a.block]? := by
  show (W.heap.push o)[a.block]? = W.heap[a.block]?;rw [Array.getElem?_push,if_neg h]
 unfold World.cell?;rw [e]
theorem frozen_alloc_ne (W : World) (o : Obj) (a : Addr) (h : ¬ a.block = W.heap.size) : (W.alloc o).frozen? a = W.frozen? a := by
 have e : (W.alloc o).heap[a.block]? = W.heap[a.block]? := by
  show (W.heap.push o)[a.block]? = W.heap[a.block]?;rw [Array.getElem?_push,if_neg h]
 unfold World.frozen?;rw [e]
theorem XK (W : World) (a p : Addr) (v : Value) (h : ¬ a.block = p.block) : (W.setCell a v).cell? p = W.cell? p := by
 have e := Below.heap_setCell W a v p.block (fun e => h e.symm);unfold World.cell?;rw [e]
theorem QW (W : World) (n : Nat) (cs : Array Value) (t : TypeId) (j : Nat) (v : Value) (hv : cs[j]? = some v) : ((W.drewN n).alloc (.cells cs t)).cell? ⟨W.heap.size,j,none⟩ = some v := (Blk.new (W.drewN n) cs t).cell j hv
theorem frozen_new (W : World) (n : Nat) (cs : Array Value) (t : TypeId) (j : Nat) : ((W.drewN n).alloc (.cells cs t)).frozen? ⟨W.heap.size,j,none⟩ = false := (Blk.new (W.drewN n) cs t).frozen j
theorem QU (w w1 W5 : World) (n B : Nat) (u x0 x1 x2 y0 y1 y2 : Value) (hb2 : Below w.heap.size w w1) (k0 : Blk w1 B #[u] 3)
 (hW : W5 = ((((((w1.drewN n).alloc (.cells #[.int .i64 0,.int .i64 0,.int .i64 0] 56)).setCell ⟨w1.heap.size,0,none⟩ x0).setCell ⟨w1.heap.size,1,none⟩ x1).setCell ⟨w1.heap.size,2,none⟩ x2).alloc (.cells #[y0,y1,y2] 56))) :
 Blk W5 w1.heap.size #[x0,x1,x2] 56 ∧ Blk W5 (w1.heap.size + 1) #[y0,y1,y2] 56 ∧ Blk W5 B #[u] 3 ∧ Below w.heap.size w W5 := by
 have n0 : Blk ((w1.drewN n).alloc (.cells #[.int .i64 0,.int .i64 0,.int .i64 0] 56)) w1.heap.size #[.int .i64 0,.int .i64 0,.int .i64 0] 56 := Blk.new (w1.drewN n) _ _;have n1 := set3' _ _ _ _ x0 x1 x2 n0 rfl;have m0 : Blk ((w1.drewN n).alloc (.cells #[.int .i64 0,.int .i64 0,.int .i64 0] 56)) B #[u] 3 := (k0.drewN n).alloc _
 have hne : B ≠ w1.heap.size := by have := k0.lt;omega
 have m1 := ((m0.other (a := ⟨w1.heap.size,0,none⟩) x0 hne).other (a := ⟨w1.heap.size,1,none⟩) x1 hne).other (a := ⟨w1.heap.size,2,none⟩) x2 hne;have q0 : Below w.heap.size w ((w1.drewN n).alloc (.cells #[.int .i64 0,.int .i64 0,.int .i64 0] 56)) := (Za hb2 n).alloc hb2.size _;have q1 := ((q0.setCell (show w.heap.size ≤ (Addr.mk w1.heap.size 0 none).block from hb2.size) x0).setCell (show w.heap.size ≤ (Addr.mk w1.heap.size 1 none).block from hb2.size) x1).setCell (show w.heap.size ≤ (Addr.mk w1.heap.size 2 none).block from hb2.size) x2
 have hs : (((((w1.drewN n).alloc (.cells #[.int .i64 0,.int .i64 0,.int .i64 0] 56)).setCell ⟨w1.heap.size,0,none⟩ x0).setCell ⟨w1.heap.size,1,none⟩ x1).setCell ⟨w1.heap.size,2,none⟩ x2).heap.size = w1.heap.size + 1 := by simp
 subst hW;refine ⟨n1.alloc _,?_,m1.alloc _,q1.alloc q1.size _⟩;have := Blk.new (((((w1.drewN n).alloc (.cells #[.int .i64 0,.int .i64 0,.int .i64 0] 56)).setCell ⟨w1.heap.size,0,none⟩ x0).setCell ⟨w1.heap.size,1,none⟩ x1).setCell ⟨w1.heap.size,2,none⟩ x2) #[y0,y1,y2] 56;rw [hs] at this;exact this
theorem YL (a b M : Int) (hb : 0 < b) (h0 : -M ≤ a) (h1 : a ≤ M) : -(M + 1) ≤ rnd a b ∧ rnd a b ≤ M + 1 := by
 have key : ∀ x : Int,0 ≤ x → 0 ≤ (2 * x + b) / (2 * b) ∧ (2 * x + b) / (2 * b) ≤ x + 1 := fun x hx => by
  refine ⟨Int.ediv_nonneg (by omega) (by omega),?_⟩;have h := Int.mul_le_mul_of_nonneg_left (show 1 ≤ b by omega) hx;rw [Int.mul_one] at h;refine Int.ediv_le_of_le_mul (by omega) ?_;rw [Int.add_mul,Int.one_mul,Int.mul_comm x (2 * b),Int.mul_assoc,Int.mul_comm b x];omega
 unfold rnd;split
 · have := key (-a) (by omega)
   rw [show -2 * a + b = 2 * -a + b by omega];omega
 · have := key a (by omega)
   omega
theorem Yl {a b : S56} {k : Int} (h : Seg a b k) : -1000000000000000000 ≤ shp a.f2 (b.f1 - a.f1) (k - a.f0) (b.f0 - a.f0) ∧ shp a.f2 (b.f1 - a.f1) (k - a.f0) (b.f0 - a.f0) ≤ 1000000000000000000 := by
 have a0 := h.a0;have ak := h.ak;have kb := h.kb;have b0 := h.b0;have v0 := h.v0;have v1 := h.v1;have u0 := h.u0;have u1 := h.u1;have s0 := h.s0;have s1 := h.s1;have sm := h.sm;unfold shp
 by_cases h0 : a.f2 = 0
 · rw [if_pos h0];omega
 · rw [if_neg h0]
   by_cases h1 : a.f2 = 1
   · rw [if_pos h1]
     have x1 := Int.mul_le_mul_of_nonneg_right (show b.f1 - a.f1 ≤ 16777214 by omega) (show 0 ≤ k - a.f0 by omega);have x2 := Int.mul_le_mul_of_nonneg_right (show -16777214 ≤ b.f1 - a.f1 by omega) (show 0 ≤ k - a.f0 by omega);have := YL ((b.f1 - a.f1) * (k - a.f0)) (b.f0 - a.f0) 100000000000000000 (by omega) (by omega) (by omega);omega
   · rw [if_neg h1]
     have hl := sm (by omega);obtain ⟨e1,e2,e3,e4,e5,e6⟩ := Ql (b.f1 - a.f1) (k - a.f0) (b.f0 - a.f0) (by omega) (by omega) hl (by omega) (by omega);have := YL _ _ 100000000000000000 e5 e3 e4;omega
theorem shape_calls {a b : S56} {k : Int} (h : Seg a b k) (s : Nat) (hs : a.f2 = s) (g : Nat) (hg : g = 80 + s) (w : World) :
 Calls Try.prog g #[.int .i64 (b.f1 - a.f1),.int .i64 (k - a.f0),.int .i64 (b.f0 - a.f0)] w fun e w' => e = .returned (.int .i64 (shp a.f2 (b.f1 - a.f1) (k - a.f0) (b.f0 - a.f0))) ∧ Below w.heap.size w w' := by
 have a0 := h.a0;have ak := h.ak;have kb := h.kb;have b0 := h.b0;have v0 := h.v0;have v1 := h.v1;have u0 := h.u0;have u1 := h.u1;have s0 := h.s0;have s1 := h.s1;have sm := h.sm;unfold shp
 match s,hs,hg with
 | 0,hs,hg =>
  subst hg;rw [if_pos (by simpa using hs)];exact shapes1_calls _ _ _ _
 | 1,hs,hg =>
  subst hg
  have hs' : a.f2 = 1 := by simpa using hs
  rw [if_neg (by omega),if_pos hs'];exact shapes2_calls _ _ _ _ (by omega) (by omega) (by omega) (by omega) (by omega)
 | 2,hs,hg =>
  subst hg
  have hs' : a.f2 = 2 := by simpa using hs
  rw [if_neg (by omega),if_neg (by omega)];exact shapes3_calls _ _ _ _ (by omega) (by omega) (sm hs') (by omega) (by omega)
 | s + 3,hs,hg => omega
theorem Yj {l : List S56} {k : Nat} {a : S56} (h : l[k]? = some a) : Ze l (k : Int) = a := by simp [Ze,h]
set_option maxRecDepth 100000 in
set_option maxHeartbeats 2000000 in
theorem Xt.calls (A0 : Option Addr) (c0 : Nat) (l0 : List (S56)) (a1 : Int) (r : Int) (w : World) (hr0 : Kd.C k56 w A0 l0.length l0) (hc0 : l0.length ≤ c0) (h : Xt.f l0 a1 = some r) :
 Calls Try.prog 57 #[.slice A0 l0.length c0,.int .i64 a1] w fun e w' => e = .returned (.int .i64 r) ∧ Below w.heap.size w w' := by
 unfold Xt.f at h;split at h
 · rename_i hg
   obtain ⟨hok,t0,t1⟩ := hg;obtain rfl := Option.some.inj h;clear h;simp only [curveB,Bool.and_eq_true,decide_eq_true_eq] at hok;obtain ⟨⟨n1,n2⟩,hcv⟩ := hok
   have hne : l0 ≠ [] := by intro e;subst e;simp at n1
   have k0 := Blk.new w #[.int .i64 a1] 3;have hb0 := (Below.refl _ w).alloc (Nat.le_refl _) (.cells #[.int .i64 a1] 3)
   have HI := fun (w0 : World) (hw : w0 = w.alloc (.cells #[.int .i64 a1] 3)) => Lib.hid (Qe (fun x => decide (x.f0 > a1)) 74 #[.pointer (some ⟨w.heap.size,0,none⟩)] enters74 A0 c0 l0 w0 (fun W x hW => value1_calls x _ a1 W (by rw [hw] at hW;exact (hW.cell (p := ⟨w.heap.size,0,none⟩) k0.lt).trans (k0.cell 0 rfl))) (by rw [hw];exact Kd.ZK hr0 hb0))
   have HI := HI _ rfl
   have hmf : ∀ (fn : Fn) (first cap : Array Value) (w : World),(Instr.makeFunc fn first cap).run Try.prog w = .ok (.func fn first cap) w := fun _ _ _ _ => rfl
   have HR := Lib.hid hr0;clear hr0
   have HK := fun (w1 : World) (hb1 : Below (w.alloc (.cells #[.int .i64 a1] 3)).heap.size (w.alloc (.cells #[.int .i64 a1] 3)) w1) => Kd.ZK HR.out (hb0.trans (hb1.mono hb0.size))
   have HK' := Lib.hid HK;clear HK;unfold valAt
   have hz : (0 : Int) < (l0.length : Int) := by omega
   by_cases hlt : a1 < (Ze l0 0).f0
   · rw [if_pos hlt]
     generalize hj : idxOf (fun x : S56 => decide (x.f0 > a1)) l0 = j at *
     have HJ := Zd.mk hj;clear hj hcv hne
     go_enter Try.func57,Try.ntmps57
     go_wp2_with (fail)
     refine HI.out.mono ?_;rintro e w1 ⟨rfl,hb1⟩;obtain ⟨ad0,eA0,hx0,hx1,hx2⟩ := Xg (HK'.out w1 hb1) 0 (by omega) (by omega)
     cases eA0
     simp only [Int.toNat_zero,Nat.zero_mul,Addr.add_zero'] at hx0 hx1 hx2;have kc : w1.cell? ⟨w.heap.size,0,none⟩ = some (.int .i64 a1) := (k0.Xv hb1).cell 0 rfl;generalize hp0 : Ze l0 0 = p0 at hx0 hx1 hx2 hlt;have HP0 := Zd.mk hp0;clear hp0;have hb2 : Below w.heap.size w w1 := hb0.trans (hb1.mono hb0.size);clear hb1 hb0 HI k0
     go_wp2_with (fail)
     go_quiet (fail)
     go_wp2
     go_ret;exact ⟨by rw [HP0.out];rfl,by apply Za;exact hb2⟩
   · rw [if_neg hlt]
     have hsp := QV a1 l0 hne hcv (fun t e => by
      have : Ze l0 0 = t := by
       cases l0 with
       | nil => simp at e
       | cons x xs => cases e;rfl
      rw [← this];omega)
     rcases hsp with ⟨q1,q2⟩ | ⟨m,a,b,q1,q2,q3,q4,q5⟩
     · rw [q1] at HI
       have hlast : Ze l0 ((l0.length : Int) - 1) = l0.getLast hne := by
        rw [List.getLast_eq_getElem]
        have : ((l0.length : Int) - 1).toNat = l0.length - 1 := by omega
        simp [Ze,this,show l0.length - 1 < l0.length by omega]
       rw [q2,← hlast];clear q1 q2 hcv hlast hne
       go_enter Try.func57,Try.ntmps57
       go_wp2_with (fail)
       refine HI.out.mono ?_;rintro e w1 ⟨rfl,hb1⟩;obtain ⟨ad0,eA0,hx0,hx1,hx2⟩ := Xg (HK'.out w1 hb1) 0 (by omega) (by omega);obtain ⟨ad1,eA1,hy0,hy1,hy2⟩ := Xg (HK'.out w1 hb1) ((l0.length : Int) - 1) (by omega) (by omega)
       cases eA0
       cases eA1
       simp only [Int.toNat_zero,Nat.zero_mul,Addr.add_zero'] at hx0 hx1 hx2;have kc : w1.cell? ⟨w.heap.size,0,none⟩ = some (.int .i64 a1) := (k0.Xv hb1).cell 0 rfl;generalize hp0 : Ze l0 0 = p0 at hx0 hx1 hx2 hlt;generalize hpn : Ze l0 ((l0.length : Int) - 1) = pn at hy0 hy1 hy2;have HPN := Zd.mk hpn;clear hp0 hpn
       have hnat : ((l0.length : Int) - 1).toNat = l0.length - 1 := by omega
       rw [hnat] at hy0 hy1 hy2;have hw : IntKind.i64.wrap ((l0.length : Int) - 1) = (l0.length : Int) - 1 := (i64_w _).trans (w64 (by omega) (by omega))
       have hi0 : (0 : Int) ≤ (l0.length : Int) - 1 := by omega
       have hi1 : (l0.length : Int) - 1 < (l0.length : Int) := by omega
       have hb2 : Below w.heap.size w w1 := hb0.trans (hb1.mono hb0.size);clear hb1 hb0 HI k0
       go_wp2_with (fail)
       go_quiet (fail)
       go_wp2
       go_ret;exact ⟨by rw [HPN.out];rfl,by apply Za;exact hb2⟩
     · rw [q1] at HI
       obtain ⟨hm,_⟩ := List.getElem?_eq_some_iff.1 q2;obtain ⟨hm1,_⟩ := List.getElem?_eq_some_iff.1 q3;rw [q4];clear q1 q4 hcv hne;have ra := Yj q2;have rb := Yj q3;clear q2 q3
       go_enter Try.func57,Try.ntmps57
       go_wp2_with (fail)
       refine HI.out.mono ?_;rintro e w1 ⟨rfl,hb1⟩;obtain ⟨ad0,eA0,hx0,hx1,hx2⟩ := Xg (HK'.out w1 hb1) 0 (by omega) (by omega);obtain ⟨ad1,eA1,hy0,hy1,hy2⟩ := Xg (HK'.out w1 hb1) (m : Int) (by omega) (by omega);obtain ⟨ad2,eA2,hz0,hz1,hz2⟩ := Xg (HK'.out w1 hb1) ((m + 1 : Nat) : Int) (by omega) (by omega)
       cases eA0
       cases eA1
       cases eA2
       rw [ra] at hy0 hy1 hy2;rw [rb] at hz0 hz1 hz2;simp only [Int.toNat_zero,Nat.zero_mul,Addr.add_zero',Int.toNat_natCast] at hx0 hx1 hx2 hy0 hy1 hy2 hz0 hz1 hz2;have k1 := k0.Xv hb1;have kc : w1.cell? ⟨w.heap.size,0,none⟩ = some (.int .i64 a1) := (k0.Xv hb1).cell 0 rfl;generalize hp0 : Ze l0 0 = p0 at hx0 hx1 hx2 hlt;clear hp0;have hw2 : IntKind.i64.wrap ((m : Int) + 1) = (m : Int) + 1 := (i64_w _).trans (w64 (by omega) (by omega))
       have hm0 : (0 : Int) ≤ (m : Int) := by omega
       have hm2 : (m : Int) < (l0.length : Int) := by omega
       have hm3 : (m : Int) + 1 < (l0.length : Int) := by omega
       have hm4 : ((m : Int) + 1).toNat = m + 1 := by omega
       have hm5 : (0 : Int) ≤ (m : Int) + 1 := by omega
       obtain ⟨P,hP⟩ : ∃ P,ad0.add (m * 3) = P := ⟨_,rfl⟩
       obtain ⟨R,hR⟩ : ∃ R,ad0.add ((m + 1) * 3) = R := ⟨_,rfl⟩
       rw [hP] at hy0 hy1 hy2;rw [hR] at hz0 hz1 hz2;have p1 : P.block < w1.heap.size := World.block_lt_of_cell? _ _ hy0;have p2 : R.block < w1.heap.size := World.block_lt_of_cell? _ _ hz0
       have p3 : P.block < w1.heap.size + 1 := by omega
       have p4 : R.block < w1.heap.size + 1 := by omega
       have ne1 : ¬ P.block = w1.heap.size := by omega
       have ne2 : ¬ w1.heap.size = P.block := by omega
       have ne3 : ¬ P.block = w1.heap.size + 1 := by omega
       have ne4 : ¬ w1.heap.size + 1 = P.block := by omega
       have ne5 : ¬ R.block = w1.heap.size := by omega
       have ne6 : ¬ w1.heap.size = R.block := by omega
       have ne7 : ¬ R.block = w1.heap.size + 1 := by omega
       have ne8 : ¬ w1.heap.size + 1 = R.block := by omega
       have hw : IntKind.i64.wrap (((m : Int) + 1) - 1) = (m : Int) := by rw [show (m : Int) + 1 - 1 = (m : Int) by omega];exact (i64_w _).trans (w64 (by omega) (by omega))
       have hb2 : Below w.heap.size w w1 := hb0.trans (hb1.mono hb0.size);clear hb1 hb0 HI k0
       go_wp2_with (fail)
       go_quiet (fail)
       go_wp2
       have ha0 := fun W o => XB W o P
       have ha1 := fun W o => XB W o ⟨P.block,P.off + 1,none⟩
       have ha2 := fun W o => XB W o ⟨P.block,P.off + 2,none⟩
       have ha3 := fun W o => XB W o R
       have ha4 := fun W o => XB W o ⟨R.block,R.off + 1,none⟩
       have ha5 := fun W o => XB W o ⟨R.block,R.off + 2,none⟩
       have hn0 := fun n cs t v hv => QW w1 n cs t 0 v hv
       have hn1 := fun n cs t v hv => QW w1 n cs t 1 v hv
       have hn2 := fun n cs t v hv => QW w1 n cs t 2 v hv
       have hz' := frozen_new w1
       have hs0 := fun W o j => XB W o ⟨w1.heap.size,j,none⟩
       have hs1 := fun W o j => frozen_alloc_ne W o ⟨w1.heap.size,j,none⟩
       have hc0' := fun W j v => XK W ⟨w1.heap.size,j,none⟩ P v
       have hc1 := fun W j v => XK W ⟨w1.heap.size,j,none⟩ ⟨P.block,P.off + 1,none⟩ v
       have hc2 := fun W j v => XK W ⟨w1.heap.size,j,none⟩ ⟨P.block,P.off + 2,none⟩ v
       have hc3 := fun W j v => XK W ⟨w1.heap.size,j,none⟩ R v
       have hc4 := fun W j v => XK W ⟨w1.heap.size,j,none⟩ ⟨R.block,R.off + 1,none⟩ v
       have hc5 := fun W j v => XK W ⟨w1.heap.size,j,none⟩ ⟨R.block,R.off + 2,none⟩ v
       go_region
       all_goals first
        | (obtain ⟨W5,hW5⟩ : ∃ W,W = ((((((w1.drewN (nq + 1)).alloc (.cells #[.int .i64 0,.int .i64 0,.int .i64 0] 56)).setCell ⟨w1.heap.size,0,none⟩ (.int .i64 a.f0)).setCell ⟨w1.heap.size,1,none⟩ (.int .i64 a.f1)).setCell ⟨w1.heap.size,2,none⟩ (.int .i64 a.f2)).alloc (.cells #[.int .i64 b.f0,.int .i64 b.f1,.int .i64 b.f2] 56)) := ⟨_,rfl⟩;obtain ⟨k6,k7,k8,hb5⟩ := QU _ _ _ _ _ _ _ _ _ _ _ _ hb2 k1 hW5;rw [← hW5];generalize w1.heap.size + 1 = p7 at k6 k7 ⊢;generalize w1.heap.size = p6 at k6 k7 ⊢)
        | (obtain ⟨W5,hW5⟩ : ∃ W,W = ((((((w1.drewN (nq + 1)).alloc (.cells #[.int .i64 0,.int .i64 0,.int .i64 0] 56)).setCell ⟨w1.heap.size,0,none⟩ (.int .i64 b.f0)).setCell ⟨w1.heap.size,1,none⟩ (.int .i64 b.f1)).setCell ⟨w1.heap.size,2,none⟩ (.int .i64 b.f2)).alloc (.cells #[.int .i64 a.f0,.int .i64 a.f1,.int .i64 a.f2] 56)) := ⟨_,rfl⟩;obtain ⟨k7,k6,k8,hb5⟩ := QU _ _ _ _ _ _ _ _ _ _ _ _ hb2 k1 hW5;rw [← hW5];generalize w1.heap.size + 1 = p6 at k6 k7 ⊢;generalize w1.heap.size = p7 at k6 k7 ⊢)
       all_goals
        clear hW5 hb2 k1 kc hx0 hx1 hx2 hy0 hy1 hy2 hz0 hz1 hz2 p1 p2 p3 p4 ne1 ne2 ne3 ne4 ne5 ne6 ne7 ne8 ha0 ha1 ha2 ha3 ha4 ha5 hn0 hn1 hn2 hz' hs0 hs1 hc0' hc1 hc2 hc3 hc4 hc5 hP hR hw hw2 HK';have a0 := q5.a0;have ak := q5.ak;have kb := q5.kb;have b0 := q5.b0;have v0 := q5.v0;have v1 := q5.v1;have z0 := q5.u0;have z1 := q5.u1;have s0 := q5.s0;have s1 := q5.s1;have hsb := Yl q5;have w1' : IntKind.i64.wrap (b.f1 - a.f1) = b.f1 - a.f1 := (i64_w _).trans (w64 (by omega) (by omega));have w2' : IntKind.i64.wrap (a1 - a.f0) = a1 - a.f0 := (i64_w _).trans (w64 (by omega) (by omega));have w3' : IntKind.i64.wrap (b.f0 - a.f0) = b.f0 - a.f0 := (i64_w _).trans (w64 (by omega) (by omega))
        have HC := fun s hs g hg w => Lib.hid (shape_calls q5 s hs g hg w)
        generalize hsv : shp a.f2 (b.f1 - a.f1) (a1 - a.f0) (b.f0 - a.f0) = sv at hsb HC;have w4' : IntKind.i64.wrap (a.f1 + sv) = a.f1 + sv := (i64_w _).trans (w64 (by omega) (by omega));have HSV := Zd.mk hsv
        have hs3 : a.f2 = ((0 : Nat) : Int) ∨ a.f2 = ((1 : Nat) : Int) ∨ a.f2 = ((2 : Nat) : Int) := by omega
        clear hsv hsb
        rcases hs3 with hs3 | hs3 | hs3
        · rw [hs3] at k6
          have hc := fun w => HC 0 hs3 80 rfl w
          have hix : ∀ w,(Instr.index 96 (.agg #[.func (.func 80) #[] #[],.func (.func 81) #[] #[],.func (.func 82) #[] #[]]) (.int .i64 0)).run Try.prog w = .ok (.func (.func 80) #[] #[]) w := fun _ => by kernel_rfl
          clear HC a0 ak kb b0 v0 v1 z0 z1 s0 s1;have q60 := k6.cell 0 (v := .int .i64 a.f0) rfl;have q61 := k6.cell 1 (v := .int .i64 a.f1) rfl;have q62 := k6.cell 2 (v := .int .i64 0) rfl;have q70 := k7.cell 0 (v := .int .i64 b.f0) rfl;have q71 := k7.cell 1 (v := .int .i64 b.f1) rfl;have q80 := k8.cell 0 (v := .int .i64 a1) rfl
          go_wp2_with (fail)
          go_region_held3 (fun w' => w'.cell? ⟨p6,0,none⟩ = some (.int .i64 a.f0) ∧ w'.cell? ⟨p6,1,none⟩ = some (.int .i64 a.f1) ∧ w'.cell? ⟨p6,2,none⟩ = some (.int .i64 0) ∧ w'.cell? ⟨p7,0,none⟩ = some (.int .i64 b.f0) ∧ w'.cell? ⟨p7,1,none⟩ = some (.int .i64 b.f1) ∧ w'.cell? ⟨w.heap.size,0,none⟩ = some (.int .i64 a1)) (simp [go_sem, *])
           (first | (go_at_call 75;refine (Qg _).mono ?_;rintro e w' ⟨rfl,hb4⟩;have hb3' := Below.call_ hb5 hb5.size hb4 ⟨rfl,rfl,rfl,rfl⟩;have k6' := Blk.call k6 hb4 rfl;have k7' := Blk.call k7 hb4 rfl;have k8' := Blk.call k8 hb4 rfl;clear hb5 k6 k7 k8 hb4 q60 q61 q62 q70 q71 q80;have hb5 := hb3';have k6 := k6';have k7 := k7';have k8 := k8';clear hb3' k6' k7' k8';have q60 := k6.cell 0 (v := .int .i64 a.f0) rfl;have q61 := k6.cell 1 (v := .int .i64 a.f1) rfl;have q62 := k6.cell 2 (v := .int .i64 0) rfl;have q70 := k7.cell 0 (v := .int .i64 b.f0) rfl;have q71 := k7.cell 1 (v := .int .i64 b.f1) rfl;have q80 := k8.cell 0 (v := .int .i64 a1) rfl) | (go_at_call 80;refine (hc _).out.mono ?_;rintro e w' ⟨rfl,hb4⟩;have hb3' := Below.call_ hb5 hb5.size hb4 ⟨rfl,rfl,rfl,rfl⟩;have k6' := Blk.call k6 hb4 rfl;have k7' := Blk.call k7 hb4 rfl;have k8' := Blk.call k8 hb4 rfl;clear hb5 k6 k7 k8 hb4 q60 q61 q62 q70 q71 q80;have hb5 := hb3';have k6 := k6';have k7 := k7';have k8 := k8';clear hb3' k6' k7' k8';have q60 := k6.cell 0 (v := .int .i64 a.f0) rfl;have q61 := k6.cell 1 (v := .int .i64 a.f1) rfl;have q62 := k6.cell 2 (v := .int .i64 0) rfl;have q70 := k7.cell 0 (v := .int .i64 b.f0) rfl;have q71 := k7.cell 1 (v := .int .i64 b.f1) rfl;have q80 := k8.cell 0 (v := .int .i64 a1) rfl))
          go_wp2
          go_ret;exact ⟨by rw [HSV.out];rfl,by first | exact hb5 | (apply Za;exact hb5) | exact hb5.drew⟩
        · rw [hs3] at k6
          have hc := fun w => HC 1 hs3 81 rfl w
          have hix : ∀ w,(Instr.index 96 (.agg #[.func (.func 80) #[] #[],.func (.func 81) #[] #[],.func (.func 82) #[] #[]]) (.int .i64 1)).run Try.prog w = .ok (.func (.func 81) #[] #[]) w := fun _ => by kernel_rfl
          clear HC a0 ak kb b0 v0 v1 z0 z1 s0 s1;have q60 := k6.cell 0 (v := .int .i64 a.f0) rfl;have q61 := k6.cell 1 (v := .int .i64 a.f1) rfl;have q62 := k6.cell 2 (v := .int .i64 1) rfl;have q70 := k7.cell 0 (v := .int .i64 b.f0) rfl;have q71 := k7.cell 1 (v := .int .i64 b.f1) rfl;have q80 := k8.cell 0 (v := .int .i64 a1) rfl
          go_wp2_with (fail)
          go_region_held3 (fun w' => w'.cell? ⟨p6,0,none⟩ = some (.int .i64 a.f0) ∧ w'.cell? ⟨p6,1,none⟩ = some (.int .i64 a.f1) ∧ w'.cell? ⟨p6,2,none⟩ = some (.int .i64 1) ∧ w'.cell? ⟨p7,0,none⟩ = some (.int .i64 b.f0) ∧ w'.cell? ⟨p7,1,none⟩ = some (.int .i64 b.f1) ∧ w'.cell? ⟨w.heap.size,0,none⟩ = some (.int .i64 a1)) (simp [go_sem, *])
           (first | (go_at_call 75;refine (Qg _).mono ?_;rintro e w' ⟨rfl,hb4⟩;have hb3' := Below.call_ hb5 hb5.size hb4 ⟨rfl,rfl,rfl,rfl⟩;have k6' := Blk.call k6 hb4 rfl;have k7' := Blk.call k7 hb4 rfl;have k8' := Blk.call k8 hb4 rfl;clear hb5 k6 k7 k8 hb4 q60 q61 q62 q70 q71 q80;have hb5 := hb3';have k6 := k6';have k7 := k7';have k8 := k8';clear hb3' k6' k7' k8';have q60 := k6.cell 0 (v := .int .i64 a.f0) rfl;have q61 := k6.cell 1 (v := .int .i64 a.f1) rfl;have q62 := k6.cell 2 (v := .int .i64 1) rfl;have q70 := k7.cell 0 (v := .int .i64 b.f0) rfl;have q71 := k7.cell 1 (v := .int .i64 b.f1) rfl;have q80 := k8.cell 0 (v := .int .i64 a1) rfl) | (go_at_call 81;refine (hc _).out.mono ?_;rintro e w' ⟨rfl,hb4⟩;have hb3' := Below.call_ hb5 hb5.size hb4 ⟨rfl,rfl,rfl,rfl⟩;have k6' := Blk.call k6 hb4 rfl;have k7' := Blk.call k7 hb4 rfl;have k8' := Blk.call k8 hb4 rfl;clear hb5 k6 k7 k8 hb4 q60 q61 q62 q70 q71 q80;have hb5 := hb3';have k6 := k6';have k7 := k7';have k8 := k8';clear hb3' k6' k7' k8';have q60 := k6.cell 0 (v := .int .i64 a.f0) rfl;have q61 := k6.cell 1 (v := .int .i64 a.f1) rfl;have q62 := k6.cell 2 (v := .int .i64 1) rfl;have q70 := k7.cell 0 (v := .int .i64 b.f0) rfl;have q71 := k7.cell 1 (v := .int .i64 b.f1) rfl;have q80 := k8.cell 0 (v := .int .i64 a1) rfl))
          go_wp2
          go_ret;exact ⟨by rw [HSV.out];rfl,by first | exact hb5 | (apply Za;exact hb5) | exact hb5.drew⟩
        · rw [hs3] at k6
          have hc := fun w => HC 2 hs3 82 rfl w
          have hix : ∀ w,(Instr.index 96 (.agg #[.func (.func 80) #[] #[],.func (.func 81) #[] #[],.func (.func 82) #[] #[]]) (.int .i64 2)).run Try.prog w = .ok (.func (.func 82) #[] #[]) w := fun _ => by kernel_rfl
          clear HC a0 ak kb b0 v0 v1 z0 z1 s0 s1;have q60 := k6.cell 0 (v := .int .i64 a.f0) rfl;have q61 := k6.cell 1 (v := .int .i64 a.f1) rfl;have q62 := k6.cell 2 (v := .int .i64 2) rfl;have q70 := k7.cell 0 (v := .int .i64 b.f0) rfl;have q71 := k7.cell 1 (v := .int .i64 b.f1) rfl;have q80 := k8.cell 0 (v := .int .i64 a1) rfl
          go_wp2_with (fail)
          go_region_held3 (fun w' => w'.cell? ⟨p6,0,none⟩ = some (.int .i64 a.f0) ∧ w'.cell? ⟨p6,1,none⟩ = some (.int .i64 a.f1) ∧ w'.cell? ⟨p6,2,none⟩ = some (.int .i64 2) ∧ w'.cell? ⟨p7,0,none⟩ = some (.int .i64 b.f0) ∧ w'.cell? ⟨p7,1,none⟩ = some (.int .i64 b.f1) ∧ w'.cell? ⟨w.heap.size,0,none⟩ = some (.int .i64 a1)) (simp [go_sem, *])
           (first | (go_at_call 75;refine (Qg _).mono ?_;rintro e w' ⟨rfl,hb4⟩;have hb3' := Below.call_ hb5 hb5.size hb4 ⟨rfl,rfl,rfl,rfl⟩;have k6' := Blk.call k6 hb4 rfl;have k7' := Blk.call k7 hb4 rfl;have k8' := Blk.call k8 hb4 rfl;clear hb5 k6 k7 k8 hb4 q60 q61 q62 q70 q71 q80;have hb5 := hb3';have k6 := k6';have k7 := k7';have k8 := k8';clear hb3' k6' k7' k8';have q60 := k6.cell 0 (v := .int .i64 a.f0) rfl;have q61 := k6.cell 1 (v := .int .i64 a.f1) rfl;have q62 := k6.cell 2 (v := .int .i64 2) rfl;have q70 := k7.cell 0 (v := .int .i64 b.f0) rfl;have q71 := k7.cell 1 (v := .int .i64 b.f1) rfl;have q80 := k8.cell 0 (v := .int .i64 a1) rfl) | (go_at_call 82;refine (hc _).out.mono ?_;rintro e w' ⟨rfl,hb4⟩;have hb3' := Below.call_ hb5 hb5.size hb4 ⟨rfl,rfl,rfl,rfl⟩;have k6' := Blk.call k6 hb4 rfl;have k7' := Blk.call k7 hb4 rfl;have k8' := Blk.call k8 hb4 rfl;clear hb5 k6 k7 k8 hb4 q60 q61 q62 q70 q71 q80;have hb5 := hb3';have k6 := k6';have k7 := k7';have k8 := k8';clear hb3' k6' k7' k8';have q60 := k6.cell 0 (v := .int .i64 a.f0) rfl;have q61 := k6.cell 1 (v := .int .i64 a.f1) rfl;have q62 := k6.cell 2 (v := .int .i64 2) rfl;have q70 := k7.cell 0 (v := .int .i64 b.f0) rfl;have q71 := k7.cell 1 (v := .int .i64 b.f1) rfl;have q80 := k8.cell 0 (v := .int .i64 a1) rfl))
          go_wp2
          go_ret;exact ⟨by rw [HSV.out];rfl,by first | exact hb5 | (apply Za;exact hb5) | exact hb5.drew⟩
 · cases h
end Go.Proofs.Ytomlfbmfdoallaa.PA

namespace Go.Proofs.Ytomlfbmfdoallaa.PA
open Go.RowKit Go.Proofs.YtomlfbmfdoallaaW.PrintWords Go.Proofs.YtomlfbmfdoallaaW.PrintLast Go.Proofs.YtomlfbmfdoallaaW.PrintMore
attribute [local go_sem] Xf Xe Xj Xk ZV ZU Xd Xc
set_option linter.unusedVariables false
set_option linter.unusedSimpArgs false
end Go.Proofs.Ytomlfbmfdoallaa.PA

namespace Go.Proofs.Ytomlfbmfdoallaa.PA
open Go.RowKit Go.Proofs.YtomlfbmfdoallaaW.PrintWords Go.Proofs.YtomlfbmfdoallaaW.PrintLast Go.Proofs.YtomlfbmfdoallaaW.PrintMore
attribute [local go_sem] Xf Xe Xj Xk ZV ZU Xd Xc
set_option linter.unusedVariables false
set_option linter.unusedSimpArgs false
def Xi.f (k : Nat) (l0 : List (S56)) (a1 : Int) : Option (Int × Int) := (Zk.f k l0).bind fun t448 => (if t448 = true then ((Z1.f a1 0 1000000000).bind fun t449 => (if t449 = true then ((Xt.f l0 a1).bind fun t450 => (some (t450,0))) else (some (0,7)))) else (some (0,1)))
theorem Xi.mono : ∀ a0 a1 k,LeO (Xi.f k a0 a1) (Xi.f (k + 1) a0 a1) := by
 intro a0 a1 k;unfold Xi.f
 repeat' first
  | (with_reducible exact Zk.mono _ _)
  | (with_reducible exact LeO.refl _)
  | (with_reducible exact LeO.none _)
  | (with_reducible refine LeO.ite ?_ ?_)
  | (with_reducible refine LeO.bind ?_ (fun _ => ?_))
  | exact Zk.mono _ _
  | exact LeO.none _
  | refine LeO.ite ?_ ?_
  | refine LeO.bind ?_ (fun _ => ?_)
set_option maxHeartbeats 8000000 in
set_option maxRecDepth 100000 in
theorem Xi.calls (k : Nat) (A0 : Option Addr) (c0 : Nat) (l0 : List (S56)) (a1 : Int) (r1 : Int) (r2 : Int) (w : World) (hr0 : Kd.C k56 w A0 l0.length l0) (hc0 : l0.length ≤ c0) (h : Xi.f k l0 a1 = some (r1,r2)) :
 Calls Try.prog 34 #[.slice A0 l0.length c0,.int .i64 a1] w fun e w' => e = .returned (.tuple #[.int .i64 r1,.int .i64 r2]) ∧ Below w.heap.size w w' := by
 have HR0 := Zd.mk hr0;have HC0 := Zd.mk hc0;clear hr0 hc0;have HB := Zd.mk (Below.refl w.heap.size w);have H : ((Zk.f k l0).bind fun t448 => (if t448 = true then ((Z1.f a1 0 1000000000).bind fun t449 => (if t449 = true then ((Xt.f l0 a1).bind fun t450 => (some (t450,0))) else (some (0,7)))) else (some (0,1)))) = some (r1,r2) := h;clear h;replace H := Option.bind_eq_some_iff.mp H;obtain ⟨t448,A30,H⟩ := H;replace H : (if t448 = true then ((Z1.f a1 0 1000000000).bind fun t449 => (if t449 = true then ((Xt.f l0 a1).bind fun t450 => (some (t450,0))) else (some (0,7)))) else (some (0,1))) = some (r1,r2) := H;have A3 := Zd.mk A30;clear A30
 by_cases c4 : t448 = true
 · subst c4
   have H1 : ((Z1.f a1 0 1000000000).bind fun t449 => (if t449 = true then ((Xt.f l0 a1).bind fun t450 => (some (t450,0))) else (some (0,7)))) = some (r1,r2) := by rw [if_pos rfl] at H;exact H
   clear H;have H := H1;clear H1;replace H := Option.bind_eq_some_iff.mp H;obtain ⟨t449,A50,H⟩ := H;replace H : (if t449 = true then ((Xt.f l0 a1).bind fun t450 => (some (t450,0))) else (some (0,7))) = some (r1,r2) := H;have A5 := Zd.mk A50;clear A50
   by_cases c6 : t449 = true
   · subst c6
     have H1 : ((Xt.f l0 a1).bind fun t450 => (some (t450,0))) = some (r1,r2) := by rw [if_pos rfl] at H;exact H
     clear H;have H := H1;clear H1;replace H := Option.bind_eq_some_iff.mp H;obtain ⟨t450,A70,H⟩ := H;replace H : (some (t450,0)) = some (r1,r2) := H;have A7 := Zd.mk A70;clear A70;simp only [Option.some.injEq,Prod.mk.injEq] at H;obtain ⟨rfl,rfl⟩ := H
     go_enter Try.func34,Try.ntmps34
     go_wp2_with (first | ((with_reducible refine Z2 (f := 36) rfl ?_);refine ZP (some 8) rfl rfl Try.func36 (by kernel_rfl) rfl #[.slice A0 l0.length c0] rfl (by (try simp only [List.map_toArray,List.map_cons,List.map_nil]);first | done | rfl | (simp only [List.length_drop,List.length_take];rfl)) ?_;(with_reducible refine (Zk.calls k _ _ l0 true _ ?side1 ?side2 A3.out).mono ?_);(case side1 => repeat (first | exact HR0.out | (with_reducible refine Kd.Z8 ?_ _) | (with_reducible refine Kd.ZB ?_ _) | (with_reducible refine Kd.ZI ?_)));(case side2 => exact HC0.out);rintro e w8 ⟨rfl,hb⟩;refine ⟨_,rfl,?_⟩;have n0_ := Zd.mk (Z0 (by repeat (first | (with_reducible first | exact HB.out | apply Zc | apply Za | apply Zb) | exact HB.out)) hb);clear HB;have HB := n0_;clear n0_;(try clear hb);(try clear hb2);(try clear hk);(try clear hi)) | ((with_reducible refine Z2 (f := 43) rfl ?_);refine ZP (some 12) rfl rfl Try.func43 (by kernel_rfl) rfl #[.int .i64 a1,.int .i64 0,.int .i64 1000000000] rfl (by (try simp only [List.map_toArray,List.map_cons,List.map_nil]);first | done | rfl | (simp only [List.length_drop,List.length_take];rfl)) ?_;(with_reducible refine (Z1.calls a1 0 1000000000 true _ A5.out).mono ?_);rintro e w' ⟨rfl,⟨nd,rfl⟩⟩;refine ⟨_,rfl,?_⟩) | ((with_reducible refine Z2 (f := 57) rfl ?_);refine ZP (some 16) rfl rfl Try.func57 (by kernel_rfl) rfl #[.slice A0 l0.length c0,.int .i64 a1] rfl (by (try simp only [List.map_toArray,List.map_cons,List.map_nil]);first | done | rfl | (simp only [List.length_drop,List.length_take];rfl)) ?_;(with_reducible refine (Xt.calls _ _ l0 a1 t450 _ ?side1 ?side2 A7.out).mono ?_);(case side1 => repeat (first | exact (Kd.ZK HR0.out (by repeat (first | (with_reducible first | exact HB.out | apply Zc | apply Za | apply Zb) | exact HB.out))) | (with_reducible refine Kd.Z8 ?_ _) | (with_reducible refine Kd.ZB ?_ _) | (with_reducible refine Kd.ZI ?_)));(case side2 => exact HC0.out);rintro e w9 ⟨rfl,hb⟩;refine ⟨_,rfl,?_⟩;have n0_ := Zd.mk (Z0 (by repeat (first | (with_reducible first | exact HB.out | apply Zc | apply Za | apply Zb) | exact HB.out)) hb);clear HB;have HB := n0_;clear n0_;(try clear hb);(try clear hb2);(try clear hk);(try clear hi)))
     go_ret2
     exact ⟨by first | rfl | (simp [Zt,Zv] <;> rfl) | (simp [*,Zt,Zv] <;> rfl),by repeat (first | (with_reducible first | exact HB.out | apply Zc | apply Za | apply Zb) | exact HB.out)⟩
   · replace c6 := Bool.eq_false_iff.mpr c6
     subst c6
     have H1 : (some (0,7)) = some (r1,r2) := by rw [if_neg (show ¬ (false = true) by decide)] at H;exact H
     clear H;have H := H1;clear H1;simp only [Option.some.injEq,Prod.mk.injEq] at H;obtain ⟨rfl,rfl⟩ := H
     go_enter Try.func34,Try.ntmps34
     go_wp2_with (first | ((with_reducible refine Z2 (f := 36) rfl ?_);refine ZP (some 8) rfl rfl Try.func36 (by kernel_rfl) rfl #[.slice A0 l0.length c0] rfl (by (try simp only [List.map_toArray,List.map_cons,List.map_nil]);first | done | rfl | (simp only [List.length_drop,List.length_take];rfl)) ?_;(with_reducible refine (Zk.calls k _ _ l0 true _ ?side1 ?side2 A3.out).mono ?_);(case side1 => repeat (first | exact HR0.out | (with_reducible refine Kd.Z8 ?_ _) | (with_reducible refine Kd.ZB ?_ _) | (with_reducible refine Kd.ZI ?_)));(case side2 => exact HC0.out);rintro e w10 ⟨rfl,hb⟩;refine ⟨_,rfl,?_⟩;have n0_ := Zd.mk (Z0 (by repeat (first | (with_reducible first | exact HB.out | apply Zc | apply Za | apply Zb) | exact HB.out)) hb);clear HB;have HB := n0_;clear n0_;(try clear hb);(try clear hb2);(try clear hk);(try clear hi)) | ((with_reducible refine Z2 (f := 43) rfl ?_);refine ZP (some 12) rfl rfl Try.func43 (by kernel_rfl) rfl #[.int .i64 a1,.int .i64 0,.int .i64 1000000000] rfl (by (try simp only [List.map_toArray,List.map_cons,List.map_nil]);first | done | rfl | (simp only [List.length_drop,List.length_take];rfl)) ?_;(with_reducible refine (Z1.calls a1 0 1000000000 false _ A5.out).mono ?_);rintro e w' ⟨rfl,⟨nd,rfl⟩⟩;refine ⟨_,rfl,?_⟩))
     go_ret2
     exact ⟨by first | rfl | (simp [Zt,Zv] <;> rfl) | (simp [*,Zt,Zv] <;> rfl),by repeat (first | (with_reducible first | exact HB.out | apply Zc | apply Za | apply Zb) | exact HB.out)⟩
 · replace c4 := Bool.eq_false_iff.mpr c4
   subst c4
   have H1 : (some (0,1)) = some (r1,r2) := by rw [if_neg (show ¬ (false = true) by decide)] at H;exact H
   clear H;have H := H1;clear H1;simp only [Option.some.injEq,Prod.mk.injEq] at H;obtain ⟨rfl,rfl⟩ := H
   go_enter Try.func34,Try.ntmps34
   go_wp2_with (first | ((with_reducible refine Z2 (f := 36) rfl ?_);refine ZP (some 8) rfl rfl Try.func36 (by kernel_rfl) rfl #[.slice A0 l0.length c0] rfl (by (try simp only [List.map_toArray,List.map_cons,List.map_nil]);first | done | rfl | (simp only [List.length_drop,List.length_take];rfl)) ?_;(with_reducible refine (Zk.calls k _ _ l0 false _ ?side1 ?side2 A3.out).mono ?_);(case side1 => repeat (first | exact HR0.out | (with_reducible refine Kd.Z8 ?_ _) | (with_reducible refine Kd.ZB ?_ _) | (with_reducible refine Kd.ZI ?_)));(case side2 => exact HC0.out);rintro e w11 ⟨rfl,hb⟩;refine ⟨_,rfl,?_⟩;have n0_ := Zd.mk (Z0 (by repeat (first | (with_reducible first | exact HB.out | apply Zc | apply Za | apply Zb) | exact HB.out)) hb);clear HB;have HB := n0_;clear n0_;(try clear hb);(try clear hb2);(try clear hk);(try clear hi)))
   go_ret2
   exact ⟨by first | rfl | (simp [Zt,Zv] <;> rfl) | (simp [*,Zt,Zv] <;> rfl),by repeat (first | (with_reducible first | exact HB.out | apply Zc | apply Za | apply Zb) | exact HB.out)⟩
end Go.Proofs.Ytomlfbmfdoallaa.PA

namespace Go.Proofs.Ytomlfbmfdoallaa.PA
open Go.RowKit Go.Proofs.YtomlfbmfdoallaaW.PrintWords Go.Proofs.YtomlfbmfdoallaaW.PrintLast Go.Proofs.YtomlfbmfdoallaaW.PrintMore
attribute [local go_sem] Xf Xe Xj Xk ZV ZU Xd Xc
set_option linter.unusedVariables false
set_option linter.unusedSimpArgs false
def Zx.f (a0 : Int) : Option (Bool) := if a0 ≥ 0 then (some (decide (a0 ≤ 1000000000))) else (some false)
set_option maxHeartbeats 8000000 in
set_option maxRecDepth 100000 in
theorem Zx.calls (a0 : Int) (r : Bool) (w : World) (h : Zx.f a0 = some r) :
 Calls Try.prog 50 #[.int .i64 a0] w fun e w' => e = .returned (.bool r) ∧ Drawn0 w w' := by
 have H : (if a0 ≥ 0 then (some (decide (a0 ≤ 1000000000))) else (some false)) = some r := h;clear h
 by_cases c2 : a0 ≥ 0
 · rw [if_pos c2] at H
   have c2b0 : decide (0 ≤ a0) = true := decide_eq_true c2;clear c2;obtain rfl := Option.some.inj H
   go_enter Try.func50,Try.ntmps50
   go_wp2
   go_ret;exact ⟨by first | rfl | (simp;done) | (simp [*];done),by repeat (first | exact Drawn0.refl _ | apply Drawn0.step)⟩
 · rw [if_neg c2] at H
   have c2b0 : decide (0 ≤ a0) = false := decide_eq_false c2;clear c2;obtain rfl := Option.some.inj H
   go_enter Try.func50,Try.ntmps50
   go_wp2
   go_ret;exact ⟨by first | rfl | (simp;done) | (simp [*];done),by repeat (first | exact Drawn0.refl _ | apply Drawn0.step)⟩
end Go.Proofs.Ytomlfbmfdoallaa.PA

namespace Go.Proofs.Ytomlfbmfdoallaa.PA
open Go.RowKit Go.Proofs.YtomlfbmfdoallaaW.PrintWords Go.Proofs.YtomlfbmfdoallaaW.PrintLast Go.Proofs.YtomlfbmfdoallaaW.PrintMore
attribute [local go_sem] Xf Xe Xj Xk ZV ZU Xd Xc
set_option linter.unusedVariables false
set_option linter.unusedSimpArgs false
def ZA.f (a0 : Int) (a1 : Int) : Option (Int) := if a0 < 0 then (if (wrap64 (2 * a1)) = 0 then (none) else (some (wrap64 (-(wrap64 (Int.tdiv (wrap64 ((wrap64 ((wrap64 (-a0)) * 2)) + a1)) (wrap64 (2 * a1)))))))) else (if (wrap64 (2 * a1)) = 0 then (none) else (some (wrap64 (Int.tdiv (wrap64 ((wrap64 (a0 * 2)) + a1)) (wrap64 (2 * a1))))))
set_option maxHeartbeats 8000000 in
set_option maxRecDepth 100000 in
theorem ZA.calls (a0 : Int) (a1 : Int) (r : Int) (w : World) (h : ZA.f a0 a1 = some r) :
 Calls Try.prog 45 #[.int .i64 a0,.int .i64 a1] w fun e w' => e = .returned (.int .i64 r) ∧ Drawn0 w w' := by
 have H : (if a0 < 0 then (if (wrap64 (2 * a1)) = 0 then (none) else (some (wrap64 (-(wrap64 (Int.tdiv (wrap64 ((wrap64 ((wrap64 (-a0)) * 2)) + a1)) (wrap64 (2 * a1)))))))) else (if (wrap64 (2 * a1)) = 0 then (none) else (some (wrap64 (Int.tdiv (wrap64 ((wrap64 (a0 * 2)) + a1)) (wrap64 (2 * a1))))))) = some r := h;clear h
 by_cases c3 : a0 < 0
 · rw [if_pos c3] at H
   have c3b0 : decide (a0 < 0) = true := decide_eq_true c3;clear c3
   by_cases c4 : (wrap64 (2 * a1)) = 0
   · rw [if_pos c4] at H
     exact absurd H (by simp)
   · rw [if_neg c4] at H
     have c4b0 : ((wrap64 (2 * a1)) == 0) = false := beq_eq_false_iff_ne.mpr c4;have c4b1 : ((wrap64 (2 * a1)) != 0) = true := bne_iff_ne.mpr c4;obtain rfl := Option.some.inj H
     go_enter Try.func45,Try.ntmps45
     go_wp2
     go_ret;exact ⟨by first | rfl | (simp;done) | (simp [*];done),by repeat (first | exact Drawn0.refl _ | apply Drawn0.step)⟩
 · rw [if_neg c3] at H
   have c3b0 : decide (a0 < 0) = false := decide_eq_false c3;clear c3
   by_cases c5 : (wrap64 (2 * a1)) = 0
   · rw [if_pos c5] at H
     exact absurd H (by simp)
   · rw [if_neg c5] at H
     have c5b0 : ((wrap64 (2 * a1)) == 0) = false := beq_eq_false_iff_ne.mpr c5;have c5b1 : ((wrap64 (2 * a1)) != 0) = true := bne_iff_ne.mpr c5;obtain rfl := Option.some.inj H
     go_enter Try.func45,Try.ntmps45
     go_wp2
     go_ret;exact ⟨by first | rfl | (simp;done) | (simp [*];done),by repeat (first | exact Drawn0.refl _ | apply Drawn0.step)⟩
end Go.Proofs.Ytomlfbmfdoallaa.PA

namespace Go.Proofs.Ytomlfbmfdoallaa.PA
open Go.RowKit Go.Proofs.YtomlfbmfdoallaaW.PrintWords Go.Proofs.YtomlfbmfdoallaaW.PrintLast Go.Proofs.YtomlfbmfdoallaaW.PrintMore
attribute [local go_sem] Xf Xe Xj Xk ZV ZU Xd Xc
set_option linter.unusedVariables false
set_option linter.unusedSimpArgs false
mutual
def Zp.j1 : Nat → List (S56) → Int → Int → Option (Int)
 | 0,_,_,_ => none
 | k + 1,x0,x1,x5 => if x5 = (wrap64 ((x0.length : Int) - 1)) then (Zp.j2 k x0 x1 x5 true) else (if 0 ≤ x5 then (if x5 < (x0.length : Int) then (Zp.j2 k x0 x1 x5 (((Ze x0 x5).f2) == 0)) else (none)) else (none))
def Zp.j2 : Nat → List (S56) → Int → Int → Bool → Option (Int)
 | 0,_,_,_,_ => none
 | k + 1,x0,x1,x5,x49 => if x49 = true then (if 0 ≤ x5 then (if x5 < (x0.length : Int) then (some ((Ze x0 x5).f1)) else (none)) else (none)) else (if 0 ≤ x5 then (if x5 < (x0.length : Int) then (if 0 ≤ (wrap64 (x5 + 1)) then (if (wrap64 (x5 + 1)) < (x0.length : Int) then (if ((Ze x0 x5).f2) = 1 then ((ZA.f (wrap64 ((wrap64 (((Ze x0 (wrap64 (x5 + 1))).f1) - ((Ze x0 x5).f1))) * (wrap64 (x1 - ((Ze x0 x5).f0))))) (wrap64 (((Ze x0 (wrap64 (x5 + 1))).f0) - ((Ze x0 x5).f0)))).bind fun t369 => (some (wrap64 (((Ze x0 x5).f1) + t369)))) else ((ZA.f (wrap64 ((wrap64 (((Ze x0 (wrap64 (x5 + 1))).f1) - ((Ze x0 x5).f1))) * (wrap64 ((wrap64 ((wrap64 ((wrap64 (3 * (wrap64 (x1 - ((Ze x0 x5).f0))))) * (wrap64 (x1 - ((Ze x0 x5).f0))))) * (wrap64 (((Ze x0 (wrap64 (x5 + 1))).f0) - ((Ze x0 x5).f0))))) - (wrap64 ((wrap64 ((wrap64 (2 * (wrap64 (x1 - ((Ze x0 x5).f0))))) * (wrap64 (x1 - ((Ze x0 x5).f0))))) * (wrap64 (x1 - ((Ze x0 x5).f0))))))))) (wrap64 ((wrap64 ((wrap64 (((Ze x0 (wrap64 (x5 + 1))).f0) - ((Ze x0 x5).f0))) * (wrap64 (((Ze x0 (wrap64 (x5 + 1))).f0) - ((Ze x0 x5).f0))))) * (wrap64 (((Ze x0 (wrap64 (x5 + 1))).f0) - ((Ze x0 x5).f0)))))).bind fun t370 => (some (wrap64 (((Ze x0 x5).f1) + t370))))) else (none)) else (none)) else (none)) else (none))
def Zp.l0 : Nat → List (S56) → Int → Int → Option (Int)
 | 0,_,_,_ => none
 | k + 1,x0,x1,x5 => if (wrap64 (x5 + 1)) < (x0.length : Int) then (if 0 ≤ (wrap64 (x5 + 1)) then (if ((Ze x0 (wrap64 (x5 + 1))).f0) ≤ x1 then (Zp.l0 k x0 x1 (wrap64 (x5 + 1))) else (Zp.j1 k x0 x1 x5)) else (none)) else (Zp.j1 k x0 x1 x5)
end
def Zp.f (k : Nat) (l0 : List (S56)) (a1 : Int) : Option (Int) := if 0 < (l0.length : Int) then (if a1 < ((Ze l0 0).f0) then (some ((Ze l0 0).f1)) else (Zp.l0 k l0 a1 0)) else (none)
theorem Zp.Xm : ∀ k,(∀ y0 y1 y2,LeO (Zp.j1 k y0 y1 y2) (Zp.j1 (k + 1) y0 y1 y2)) ∧ (∀ y0 y1 y2 y3,LeO (Zp.j2 k y0 y1 y2 y3) (Zp.j2 (k + 1) y0 y1 y2 y3)) ∧ (∀ y0 y1 y2,LeO (Zp.l0 k y0 y1 y2) (Zp.l0 (k + 1) y0 y1 y2))
 | 0 => ⟨fun _ _ _ r h => by simp [Zp.j1] at h,fun _ _ _ _ r h => by simp [Zp.j2] at h,fun _ _ _ r h => by simp [Zp.l0] at h⟩
 | k + 1 => by
  obtain ⟨ih0,ih1,ih2⟩ := Zp.Xm k;refine ⟨?_,?_,?_⟩
  · intro y0 y1 y2
    unfold Zp.j1
    repeat' first
    | (with_reducible exact ih0 _ _ _)
    | (with_reducible exact ih1 _ _ _ _)
    | (with_reducible exact ih2 _ _ _)
    | (with_reducible exact LeO.refl _)
    | (with_reducible exact LeO.none _)
    | (with_reducible refine LeO.ite ?_ ?_)
    | (with_reducible refine LeO.bind ?_ (fun _ => ?_))
    | exact ih0 _ _ _
    | exact ih1 _ _ _ _
    | exact ih2 _ _ _
    | exact LeO.none _
    | refine LeO.ite ?_ ?_
    | refine LeO.bind ?_ (fun _ => ?_)
  · intro y0 y1 y2 y3
    unfold Zp.j2
    repeat' first
    | (with_reducible exact ih0 _ _ _)
    | (with_reducible exact ih1 _ _ _ _)
    | (with_reducible exact ih2 _ _ _)
    | (with_reducible exact LeO.refl _)
    | (with_reducible exact LeO.none _)
    | (with_reducible refine LeO.ite ?_ ?_)
    | (with_reducible refine LeO.bind ?_ (fun _ => ?_))
    | exact ih0 _ _ _
    | exact ih1 _ _ _ _
    | exact ih2 _ _ _
    | exact LeO.none _
    | refine LeO.ite ?_ ?_
    | refine LeO.bind ?_ (fun _ => ?_)
  · intro y0 y1 y2
    unfold Zp.l0
    repeat' first
    | (with_reducible exact ih0 _ _ _)
    | (with_reducible exact ih1 _ _ _ _)
    | (with_reducible exact ih2 _ _ _)
    | (with_reducible exact LeO.refl _)
    | (with_reducible exact LeO.none _)
    | (with_reducible refine LeO.ite ?_ ?_)
    | (with_reducible refine LeO.bind ?_ (fun _ => ?_))
    | exact ih0 _ _ _
    | exact ih1 _ _ _ _
    | exact ih2 _ _ _
    | exact LeO.none _
    | refine LeO.ite ?_ ?_
    | refine LeO.bind ?_ (fun _ => ?_)
theorem Zp.mono : ∀ a0 a1 k,LeO (Zp.f k a0 a1) (Zp.f (k + 1) a0 a1) := by
 intro a0 a1 k;obtain ⟨ih0,ih1,ih2⟩ := Zp.Xm k;unfold Zp.f
 repeat' first
  | (with_reducible exact ih0 _ _ _)
  | (with_reducible exact ih1 _ _ _ _)
  | (with_reducible exact ih2 _ _ _)
  | (with_reducible exact LeO.refl _)
  | (with_reducible exact LeO.none _)
  | (with_reducible refine LeO.ite ?_ ?_)
  | (with_reducible refine LeO.bind ?_ (fun _ => ?_))
  | exact ih0 _ _ _
  | exact ih1 _ _ _ _
  | exact ih2 _ _ _
  | exact LeO.none _
  | refine LeO.ite ?_ ?_
  | refine LeO.bind ?_ (fun _ => ?_)
set_option maxHeartbeats 8000000 in
set_option maxRecDepth 100000 in
theorem Zp.calls (k : Nat) (A0 : Option Addr) (c0 : Nat) (l0 : List (S56)) (a1 : Int) (r : Int) (w : World) (hr0 : Kd.C k56 w A0 l0.length l0) (hc0 : l0.length ≤ c0) (h : Zp.f k l0 a1 = some r) :
 Calls Try.prog 58 #[.slice A0 l0.length c0,.int .i64 a1] w fun e w' => e = .returned (.int .i64 r) ∧ Drawn0 w w' := by
 have HR0 := Zd.mk hr0;have HC0 := Zd.mk hc0;clear hr0 hc0;have H : (if 0 < (l0.length : Int) then (if a1 < ((Ze l0 0).f0) then (some ((Ze l0 0).f1)) else (Zp.l0 k l0 a1 0)) else (none)) = some r := h;clear h
 by_cases c3 : 0 < (l0.length : Int)
 · rw [if_pos c3] at H
   have c3b0 : decide (0 < (l0.length : Int)) = true := decide_eq_true c3;have c3b1 : decide (0 < l0.length) = true := decide_eq_true (by omega);clear c3
   by_cases c4 : a1 < ((Ze l0 0).f0)
   · rw [if_pos c4] at H
     have c4b0 : decide (a1 < ((Ze l0 0).f0)) = true := decide_eq_true c4;clear c4;obtain rfl := Option.some.inj H
     have p358 : 0 ≤ (0 : Int) := (by omega)
     have q358 : 0 < (l0.length : Int) := of_decide_eq_true (by first | (with_reducible assumption) | assumption);obtain ⟨ad358,e358,hx358_0,hx358_1,hx358_2⟩ := Xg HR0.out 0 p358 q358
     cases e358
     have qi358 : (0 < l0.length) = True := eq_true (by omega)
     (try rw [show ((0 : Int)).toNat = 0 from rfl] at hx358_0)
     (try rw [show 0 * 3 = 0 from rfl] at hx358_0)
     (try rw [Addr.add_zero'] at hx358_0)
     (try rw [show ((0 : Int)).toNat = 0 from rfl] at hx358_1)
     (try rw [show 0 * 3 = 0 from rfl] at hx358_1)
     (try rw [Addr.add_zero'] at hx358_1)
     (try rw [show ((0 : Int)).toNat = 0 from rfl] at hx358_2)
     (try rw [show 0 * 3 = 0 from rfl] at hx358_2)
     (try rw [Addr.add_zero'] at hx358_2)
     replace p358 := eq_true p358;replace q358 := eq_true q358
     have p359 : 0 ≤ (0 : Int) := (by omega)
     have q359 : 0 < (l0.length : Int) := of_decide_eq_true (by first | (with_reducible assumption) | assumption);obtain ⟨ad359,e359,hx359_0,hx359_1,hx359_2⟩ := Xg HR0.out 0 p359 q359
     obtain rfl : ad358 = ad359 := (by injection e359)
     have qi359 : (0 < l0.length) = True := eq_true (by omega)
     (try rw [show ((0 : Int)).toNat = 0 from rfl] at hx359_0)
     (try rw [show 0 * 3 = 0 from rfl] at hx359_0)
     (try rw [Addr.add_zero'] at hx359_0)
     (try rw [show ((0 : Int)).toNat = 0 from rfl] at hx359_1)
     (try rw [show 0 * 3 = 0 from rfl] at hx359_1)
     (try rw [Addr.add_zero'] at hx359_1)
     (try rw [show ((0 : Int)).toNat = 0 from rfl] at hx359_2)
     (try rw [show 0 * 3 = 0 from rfl] at hx359_2)
     (try rw [Addr.add_zero'] at hx359_2)
     replace p359 := eq_true p359;replace q359 := eq_true q359
     go_enter Try.func58,Try.ntmps58
     go_wp2
     repeat (go_quiet (fail);try go_wp2)
     go_ret;exact ⟨by first | rfl | (simp;done) | (simp [*];done),by repeat (first | exact Drawn0.refl _ | apply Drawn0.step)⟩
   · rw [if_neg c4] at H
     have c4b0 : decide (a1 < ((Ze l0 0).f0)) = false := decide_eq_false c4;clear c4;have HC5 := Zd.mk H;clear H
     have p358 : 0 ≤ (0 : Int) := (by omega)
     have q358 : 0 < (l0.length : Int) := of_decide_eq_true (by first | (with_reducible assumption) | assumption);obtain ⟨ad358,e358,hx358_0,hx358_1,hx358_2⟩ := Xg HR0.out 0 p358 q358
     cases e358
     have qi358 : (0 < l0.length) = True := eq_true (by omega)
     (try rw [show ((0 : Int)).toNat = 0 from rfl] at hx358_0)
     (try rw [show 0 * 3 = 0 from rfl] at hx358_0)
     (try rw [Addr.add_zero'] at hx358_0)
     (try rw [show ((0 : Int)).toNat = 0 from rfl] at hx358_1)
     (try rw [show 0 * 3 = 0 from rfl] at hx358_1)
     (try rw [Addr.add_zero'] at hx358_1)
     (try rw [show ((0 : Int)).toNat = 0 from rfl] at hx358_2)
     (try rw [show 0 * 3 = 0 from rfl] at hx358_2)
     (try rw [Addr.add_zero'] at hx358_2)
     replace p358 := eq_true p358;replace q358 := eq_true q358
     go_enter Try.func58,Try.ntmps58
     go_upto_block 0 with (fail)
     repeat (go_quiet (fail);go_upto_block 0 with (fail))
     go_cut [5] (fun v5 wc => ∃ (kq : Nat) (x5_4 : Int),v5 = .int .i64 x5_4 ∧ Zd (Zp.j1 kq l0 a1 x5_4 = some r) ∧ Zd (kq ≤ k) ∧ Drawn0 w wc)
     case first =>
      have H := HC5.out;clear HC5;have H' := Zd.mk H;clear H
      go_wp2
      repeat (go_quiet (fail);try go_wp2)
      go_loopg [5] k (fun kq v5 w' => ∃ (x5_1 : Int),v5 = .int .i64 x5_1 ∧ Zd (Zp.l0 kq l0 a1 x5_1 = some r) ∧ Zd (kq ≤ k) ∧ Drawn0 w w')
      case atStart => exact ⟨(0),(by first | rfl | (simp;done) | (simp [*];done)),H',⟨Nat.le_refl _⟩,by repeat (first | exact Drawn0.refl _ | apply Drawn0.step)⟩
      case round =>
       clear H'
       (try clear p2); (try clear c3); (try clear c3b0); (try clear c3b1); (try clear p3); (try clear q3); (try clear hx3); (try clear qi3); (try clear c4); (try clear c4b0); (try clear c5); (try clear hx358_0); (try clear hx358_1); (try clear hx358_2); (try clear hx359_0); (try clear hx359_1); (try clear hx359_2); (try clear p358); (try clear p359); (try clear q358); (try clear q359)
       obtain ⟨x5_1,rfl,HA,HK1,⟨m1,rfl⟩⟩ := hrel
       cases gk with
       | zero => exact absurd HA.out (by simp [Zp.l0])
       | succ k1 =>
        have H := HA.out;clear HA;simp only [Zp.l0] at H
        by_cases c6 : (wrap64 (x5_1 + 1)) < (l0.length : Int)
        · rw [if_pos c6] at H
          have c6b0 : decide ((wrap64 (x5_1 + 1)) < (l0.length : Int)) = true := decide_eq_true c6;clear c6
          (first | rw [c6b0] | (simp only [i64_w,i32_w];rw [c6b0]) | skip)
          obtain ⟨ji7,hji7⟩ : ∃ j_ : Int,(wrap64 (x5_1 + 1)) = j_ := ⟨_,rfl⟩
          replace H : (if 0 ≤ (ji7) then (if ((Ze l0 (ji7)).f0) ≤ a1 then (Zp.l0 k1 l0 a1 ji7) else (Zp.j1 k1 l0 a1 x5_1)) else (none)) = some r := by first | (rw [hji7] at H;exact H) | (simp only [hji7] at H ⊢;exact H)
          (try rw [hji7] at c6b0)
          have hji7w : (IntKind.i64.wrap (x5_1 + 1)) = ji7 := (i64_w _).trans hji7
          by_cases c8 : 0 ≤ (ji7)
          · rw [if_pos c8] at H
            have c8b0 : decide (0 ≤ (ji7)) = true := decide_eq_true c8;clear c8
            by_cases c9 : ((Ze l0 (ji7)).f0) ≤ a1
            · rw [if_pos c9] at H
              have c9b0 : decide (((Ze l0 (ji7)).f0) ≤ a1) = true := decide_eq_true c9;clear c9;have H' := Zd.mk H;clear H;have p360 : 0 ≤ ((ji7) : Int) := of_decide_eq_true (by first | (with_reducible assumption) | assumption);have q360 : (ji7) < (l0.length : Int) := of_decide_eq_true (by first | (with_reducible assumption) | assumption);obtain ⟨ad360,e360,hx360_0,hx360_1,hx360_2⟩ := Xg HR0.out (ji7) p360 q360
              obtain rfl : ad358 = ad360 := (by injection e360)
              replace p360 := eq_true p360;replace q360 := eq_true q360
              go_wp2
              repeat (go_quiet (fail);try go_wp2)
              go_roundg k1
              case measure => have := HK1.out;omega
              case rel => exact ⟨(ji7),(by first | rfl | (simp;done) | (simp only [← hji7] <;> (first | rfl | simp)) | (simp [*];done)),H',⟨by have := HK1.out;omega⟩,by repeat (first | exact Drawn0.refl _ | apply Drawn0.step)⟩
            · rw [if_neg c9] at H
              have c9b0 : decide (((Ze l0 (ji7)).f0) ≤ a1) = false := decide_eq_false c9;clear c9;have H' := Zd.mk H;clear H;have p360 : 0 ≤ ((ji7) : Int) := of_decide_eq_true (by first | (with_reducible assumption) | assumption);have q360 : (ji7) < (l0.length : Int) := of_decide_eq_true (by first | (with_reducible assumption) | assumption);obtain ⟨ad360,e360,hx360_0,hx360_1,hx360_2⟩ := Xg HR0.out (ji7) p360 q360
              obtain rfl : ad358 = ad360 := (by injection e360)
              replace p360 := eq_true p360;replace q360 := eq_true q360
              go_wp2
              repeat (go_quiet (fail);try go_wp2)
              go_meet
              case rel => exact ⟨_,(x5_1),(by first | rfl | (simp;done) | (simp [*];done)),H',⟨by have := HK1.out;first | omega | exact Nat.le_refl _⟩,by repeat (first | exact Drawn0.refl _ | apply Drawn0.step)⟩
          · rw [if_neg c8] at H
            exact absurd H (by simp)
        · rw [if_neg c6] at H
          have c6b0 : decide ((wrap64 (x5_1 + 1)) < (l0.length : Int)) = false := decide_eq_false c6;clear c6
          (first | rw [c6b0] | (simp only [i64_w,i32_w];rw [c6b0]) | skip)
          have H' := Zd.mk H;clear H
          go_wp2
          repeat (go_quiet (fail);try go_wp2)
          go_meet
          case rel => exact ⟨_,(x5_1),(by first | rfl | (simp;done) | (simp [*];done)),H',⟨by have := HK1.out;first | omega | exact Nat.le_refl _⟩,by repeat (first | exact Drawn0.refl _ | apply Drawn0.step)⟩
     case rest =>
      clear HC5
      (try clear p2); (try clear c3); (try clear c3b0); (try clear c3b1); (try clear p3); (try clear q3); (try clear hx3); (try clear qi3); (try clear c4); (try clear c4b0); (try clear c5); (try clear c6); (try clear c6b0); (try clear p6); (try clear c8); (try clear c8b0); (try clear c9); (try clear c9b0); (try clear hx358_0); (try clear hx358_1); (try clear hx358_2); (try clear hx359_0); (try clear hx359_1); (try clear hx359_2); (try clear hx360_0); (try clear hx360_1); (try clear hx360_2); (try clear p2); (try clear p3); (try clear p358); (try clear p359); (try clear p360); (try clear q3); (try clear q358); (try clear q359); (try clear q360)
      obtain ⟨kq,x5_4,rfl,HA,HJ4,⟨mc4,rfl⟩⟩ := hcut
      cases kq with
      | zero => exact absurd HA.out (by simp [Zp.j1])
      | succ kj4 =>
       have H := HA.out;clear HA;simp only [Zp.j1] at H;have HC10 := Zd.mk H;clear H
       go_upto_region 6 with (fail)
       repeat (go_quiet (fail);go_upto_region 6 with (fail))
       go_cut [49] (fun v49 wc => ∃ (kq : Nat) (x49_9 : Bool),v49 = .bool x49_9 ∧ Zd (Zp.j2 kq l0 a1 x5_4 x49_9 = some r) ∧ Zd (kq ≤ kj4) ∧ Drawn0 w wc)
       case first =>
        have H := HC10.out;clear HC10
        by_cases c11 : x5_4 = (wrap64 ((l0.length : Int) - 1))
        · rw [if_pos c11] at H
          have c11b0 : (x5_4 == (wrap64 ((l0.length : Int) - 1))) = true := beq_iff_eq.mpr c11;have c11b1 : (x5_4 != (wrap64 ((l0.length : Int) - 1))) = false := bne_eq_false_iff_eq.mpr c11;clear c11
          (first | rw [c11b0] | (simp only [i64_w,i32_w];rw [c11b0]) | skip)
          have H' := Zd.mk H;clear H
          go_wp2
          repeat (go_quiet (fail);try go_wp2)
          go_meet
          case rel => exact ⟨_,(true),(by first | rfl | (simp;done) | (simp [*];done)),H',⟨by have := HJ4.out;first | omega | exact Nat.le_refl _⟩,by repeat (first | exact Drawn0.refl _ | apply Drawn0.step)⟩
        · rw [if_neg c11] at H
          have c11b0 : (x5_4 == (wrap64 ((l0.length : Int) - 1))) = false := beq_eq_false_iff_ne.mpr c11;have c11b1 : (x5_4 != (wrap64 ((l0.length : Int) - 1))) = true := bne_iff_ne.mpr c11
          (first | rw [c11b0] | (simp only [i64_w,i32_w];rw [c11b0]) | skip)
          by_cases c12 : 0 ≤ x5_4
          · rw [if_pos c12] at H
            have c12b0 : decide (0 ≤ x5_4) = true := decide_eq_true c12;clear c12
            by_cases c13 : x5_4 < (l0.length : Int)
            · rw [if_pos c13] at H
              have c13b0 : decide (x5_4 < (l0.length : Int)) = true := decide_eq_true c13;clear c13;have H' := Zd.mk H;clear H;have p361 : 0 ≤ (x5_4 : Int) := of_decide_eq_true (by first | (with_reducible assumption) | assumption);have q361 : x5_4 < (l0.length : Int) := of_decide_eq_true (by first | (with_reducible assumption) | assumption);obtain ⟨ad361,e361,hx361_0,hx361_1,hx361_2⟩ := Xg HR0.out x5_4 p361 q361
              obtain rfl : ad358 = ad361 := (by injection e361)
              replace p361 := eq_true p361;replace q361 := eq_true q361
              go_wp2
              repeat (go_quiet (fail);try go_wp2)
              go_meet
              case rel => exact ⟨_,((((Ze l0 x5_4).f2) == 0)),(by first | rfl | (simp;done) | (simp [*];done)),H',⟨by have := HJ4.out;first | omega | exact Nat.le_refl _⟩,by repeat (first | exact Drawn0.refl _ | apply Drawn0.step)⟩
            · rw [if_neg c13] at H
              exact absurd H (by simp)
          · rw [if_neg c12] at H
            exact absurd H (by simp)
       case rest =>
        clear HC10
        (try clear c1); (try clear p2); (try clear c3); (try clear c3b0); (try clear c3b1); (try clear p3); (try clear q3); (try clear hx3); (try clear qi3); (try clear c4); (try clear c4b0); (try clear c5); (try clear c6); (try clear c6b0); (try clear p6); (try clear c8); (try clear c8b0); (try clear c9); (try clear c9b0); (try clear c11); (try clear c11b0); (try clear c11b1); (try clear c12); (try clear c12b0); (try clear c13); (try clear c13b0); (try clear hx358_0); (try clear hx358_1); (try clear hx358_2); (try clear hx359_0); (try clear hx359_1); (try clear hx359_2); (try clear hx360_0); (try clear hx360_1); (try clear hx360_2); (try clear hx361_0); (try clear hx361_1); (try clear hx361_2); (try clear p2); (try clear p3); (try clear p358); (try clear p359); (try clear p360); (try clear p361); (try clear p6); (try clear q3); (try clear q358); (try clear q359); (try clear q360); (try clear q361)
        obtain ⟨kq,x49_9,rfl,HA,HJ9,⟨mc9,rfl⟩⟩ := hcut
        cases kq with
        | zero => exact absurd HA.out (by simp [Zp.j2])
        | succ kj9 =>
         have H := HA.out;clear HA;simp only [Zp.j2] at H
         by_cases c14 : x49_9 = true
         · subst c14
           have H1 : (if 0 ≤ x5_4 then (if x5_4 < (l0.length : Int) then (some ((Ze l0 x5_4).f1)) else (none)) else (none)) = some r := by rw [if_pos rfl] at H;exact H
           clear H;have H := H1;clear H1
           by_cases c15 : 0 ≤ x5_4
           · rw [if_pos c15] at H
             have c15b0 : decide (0 ≤ x5_4) = true := decide_eq_true c15;clear c15
             by_cases c16 : x5_4 < (l0.length : Int)
             · rw [if_pos c16] at H
               have c16b0 : decide (x5_4 < (l0.length : Int)) = true := decide_eq_true c16;clear c16;obtain rfl := Option.some.inj H;have p362 : 0 ≤ (x5_4 : Int) := of_decide_eq_true (by first | (with_reducible assumption) | assumption);have q362 : x5_4 < (l0.length : Int) := of_decide_eq_true (by first | (with_reducible assumption) | assumption);obtain ⟨ad362,e362,hx362_0,hx362_1,hx362_2⟩ := Xg HR0.out x5_4 p362 q362
               obtain rfl : ad358 = ad362 := (by injection e362)
               replace p362 := eq_true p362;replace q362 := eq_true q362
               go_wp2
               repeat (go_quiet (fail);try go_wp2)
               go_ret;exact ⟨by first | rfl | (simp;done) | (simp [*];done),by repeat (first | exact Drawn0.refl _ | apply Drawn0.step)⟩
             · rw [if_neg c16] at H
               exact absurd H (by simp)
           · rw [if_neg c15] at H
             exact absurd H (by simp)
         · replace c14 := Bool.eq_false_iff.mpr c14
           subst c14
           have H1 : (if 0 ≤ x5_4 then (if x5_4 < (l0.length : Int) then (if 0 ≤ (wrap64 (x5_4 + 1)) then (if (wrap64 (x5_4 + 1)) < (l0.length : Int) then (if ((Ze l0 x5_4).f2) = 1 then ((ZA.f (wrap64 ((wrap64 (((Ze l0 (wrap64 (x5_4 + 1))).f1) - ((Ze l0 x5_4).f1))) * (wrap64 (a1 - ((Ze l0 x5_4).f0))))) (wrap64 (((Ze l0 (wrap64 (x5_4 + 1))).f0) - ((Ze l0 x5_4).f0)))).bind fun t369 => (some (wrap64 (((Ze l0 x5_4).f1) + t369)))) else ((ZA.f (wrap64 ((wrap64 (((Ze l0 (wrap64 (x5_4 + 1))).f1) - ((Ze l0 x5_4).f1))) * (wrap64 ((wrap64 ((wrap64 ((wrap64 (3 * (wrap64 (a1 - ((Ze l0 x5_4).f0))))) * (wrap64 (a1 - ((Ze l0 x5_4).f0))))) * (wrap64 (((Ze l0 (wrap64 (x5_4 + 1))).f0) - ((Ze l0 x5_4).f0))))) - (wrap64 ((wrap64 ((wrap64 (2 * (wrap64 (a1 - ((Ze l0 x5_4).f0))))) * (wrap64 (a1 - ((Ze l0 x5_4).f0))))) * (wrap64 (a1 - ((Ze l0 x5_4).f0))))))))) (wrap64 ((wrap64 ((wrap64 (((Ze l0 (wrap64 (x5_4 + 1))).f0) - ((Ze l0 x5_4).f0))) * (wrap64 (((Ze l0 (wrap64 (x5_4 + 1))).f0) - ((Ze l0 x5_4).f0))))) * (wrap64 (((Ze l0 (wrap64 (x5_4 + 1))).f0) - ((Ze l0 x5_4).f0)))))).bind fun t370 => (some (wrap64 (((Ze l0 x5_4).f1) + t370))))) else (none)) else (none)) else (none)) else (none)) = some r := by rw [if_neg (show ¬ (false = true) by decide)] at H;exact H
           clear H;have H := H1;clear H1
           by_cases c17 : 0 ≤ x5_4
           · rw [if_pos c17] at H
             have c17b0 : decide (0 ≤ x5_4) = true := decide_eq_true c17;clear c17
             by_cases c18 : x5_4 < (l0.length : Int)
             · rw [if_pos c18] at H
               have c18b0 : decide (x5_4 < (l0.length : Int)) = true := decide_eq_true c18;clear c18
               obtain ⟨ji19,hji19⟩ : ∃ j_ : Int,(wrap64 (x5_4 + 1)) = j_ := ⟨_,rfl⟩
               replace H : (if 0 ≤ (ji19) then (if (ji19) < (l0.length : Int) then (if ((Ze l0 x5_4).f2) = 1 then ((ZA.f (wrap64 ((wrap64 (((Ze l0 (ji19)).f1) - ((Ze l0 x5_4).f1))) * (wrap64 (a1 - ((Ze l0 x5_4).f0))))) (wrap64 (((Ze l0 (ji19)).f0) - ((Ze l0 x5_4).f0)))).bind fun t369 => (some (wrap64 (((Ze l0 x5_4).f1) + t369)))) else ((ZA.f (wrap64 ((wrap64 (((Ze l0 (ji19)).f1) - ((Ze l0 x5_4).f1))) * (wrap64 ((wrap64 ((wrap64 ((wrap64 (3 * (wrap64 (a1 - ((Ze l0 x5_4).f0))))) * (wrap64 (a1 - ((Ze l0 x5_4).f0))))) * (wrap64 (((Ze l0 (ji19)).f0) - ((Ze l0 x5_4).f0))))) - (wrap64 ((wrap64 ((wrap64 (2 * (wrap64 (a1 - ((Ze l0 x5_4).f0))))) * (wrap64 (a1 - ((Ze l0 x5_4).f0))))) * (wrap64 (a1 - ((Ze l0 x5_4).f0))))))))) (wrap64 ((wrap64 ((wrap64 (((Ze l0 (ji19)).f0) - ((Ze l0 x5_4).f0))) * (wrap64 (((Ze l0 (ji19)).f0) - ((Ze l0 x5_4).f0))))) * (wrap64 (((Ze l0 (ji19)).f0) - ((Ze l0 x5_4).f0)))))).bind fun t370 => (some (wrap64 (((Ze l0 x5_4).f1) + t370))))) else (none)) else (none)) = some r := by first | (rw [hji19] at H;exact H) | (simp only [hji19] at H ⊢;exact H)
               have hji19w : (IntKind.i64.wrap (x5_4 + 1)) = ji19 := (i64_w _).trans hji19
               by_cases c20 : 0 ≤ (ji19)
               · rw [if_pos c20] at H
                 have c20b0 : decide (0 ≤ (ji19)) = true := decide_eq_true c20;clear c20
                 by_cases c21 : (ji19) < (l0.length : Int)
                 · rw [if_pos c21] at H
                   have c21b0 : decide ((ji19) < (l0.length : Int)) = true := decide_eq_true c21;clear c21
                   by_cases c22 : ((Ze l0 x5_4).f2) = 1
                   · rw [if_pos c22] at H
                     have c22b0 : (((Ze l0 x5_4).f2) == 1) = true := beq_iff_eq.mpr c22;have c22b1 : (((Ze l0 x5_4).f2) != 1) = false := bne_eq_false_iff_eq.mpr c22;clear c22;replace H := Option.bind_eq_some_iff.mp H;obtain ⟨t369,A230,H⟩ := H;replace H : (some (wrap64 (((Ze l0 x5_4).f1) + t369))) = some r := H;have A23 := Zd.mk A230;clear A230;obtain rfl := Option.some.inj H;have p363 : 0 ≤ (x5_4 : Int) := of_decide_eq_true (by first | (with_reducible assumption) | assumption);have q363 : x5_4 < (l0.length : Int) := of_decide_eq_true (by first | (with_reducible assumption) | assumption);obtain ⟨ad363,e363,hx363_0,hx363_1,hx363_2⟩ := Xg HR0.out x5_4 p363 q363
                     obtain rfl : ad358 = ad363 := (by injection e363)
                     replace p363 := eq_true p363;replace q363 := eq_true q363;have p364 : 0 ≤ ((ji19) : Int) := of_decide_eq_true (by first | (with_reducible assumption) | assumption);have q364 : (ji19) < (l0.length : Int) := of_decide_eq_true (by first | (with_reducible assumption) | assumption);obtain ⟨ad364,e364,hx364_0,hx364_1,hx364_2⟩ := Xg HR0.out (ji19) p364 q364
                     obtain rfl : ad358 = ad364 := (by injection e364)
                     replace p364 := eq_true p364;replace q364 := eq_true q364;have p365 : 0 ≤ (x5_4 : Int) := of_decide_eq_true (by first | (with_reducible assumption) | assumption);have q365 : x5_4 < (l0.length : Int) := of_decide_eq_true (by first | (with_reducible assumption) | assumption);obtain ⟨ad365,e365,hx365_0,hx365_1,hx365_2⟩ := Xg HR0.out x5_4 p365 q365
                     obtain rfl : ad358 = ad365 := (by injection e365)
                     replace p365 := eq_true p365;replace q365 := eq_true q365;have p366 : 0 ≤ ((ji19) : Int) := of_decide_eq_true (by first | (with_reducible assumption) | assumption);have q366 : (ji19) < (l0.length : Int) := of_decide_eq_true (by first | (with_reducible assumption) | assumption);obtain ⟨ad366,e366,hx366_0,hx366_1,hx366_2⟩ := Xg HR0.out (ji19) p366 q366
                     obtain rfl : ad358 = ad366 := (by injection e366)
                     replace p366 := eq_true p366;replace q366 := eq_true q366;have p367 : 0 ≤ (x5_4 : Int) := of_decide_eq_true (by first | (with_reducible assumption) | assumption);have q367 : x5_4 < (l0.length : Int) := of_decide_eq_true (by first | (with_reducible assumption) | assumption);obtain ⟨ad367,e367,hx367_0,hx367_1,hx367_2⟩ := Xg HR0.out x5_4 p367 q367
                     obtain rfl : ad358 = ad367 := (by injection e367)
                     replace p367 := eq_true p367;replace q367 := eq_true q367;have p368 : 0 ≤ (x5_4 : Int) := of_decide_eq_true (by first | (with_reducible assumption) | assumption);have q368 : x5_4 < (l0.length : Int) := of_decide_eq_true (by first | (with_reducible assumption) | assumption);obtain ⟨ad368,e368,hx368_0,hx368_1,hx368_2⟩ := Xg HR0.out x5_4 p368 q368
                     obtain rfl : ad358 = ad368 := (by injection e368)
                     replace p368 := eq_true p368;replace q368 := eq_true q368
                     go_wp2_with (first | (go_at_call 45;(with_reducible refine (ZA.calls (wrap64 ((wrap64 (((Ze l0 (ji19)).f1) - ((Ze l0 x5_4).f1))) * (wrap64 (a1 - ((Ze l0 x5_4).f0))))) (wrap64 (((Ze l0 (ji19)).f0) - ((Ze l0 x5_4).f0))) t369 _ A23.out).mono ?_);rintro e w' ⟨rfl,⟨nd,rfl⟩⟩;(try first | exact ⟨rfl,_,World.drewN_drewN _ _ _⟩ | exact ⟨rfl,_,Eq.trans (World.drewN_drewN _ _ _) (congrArg (World.drewN _) (Nat.add_assoc _ _ _))⟩)))
                     repeat (go_quiet (first | (go_at_call 45;(with_reducible refine (ZA.calls (wrap64 ((wrap64 (((Ze l0 (ji19)).f1) - ((Ze l0 x5_4).f1))) * (wrap64 (a1 - ((Ze l0 x5_4).f0))))) (wrap64 (((Ze l0 (ji19)).f0) - ((Ze l0 x5_4).f0))) t369 _ A23.out).mono ?_);rintro e w' ⟨rfl,⟨nd,rfl⟩⟩;(try first | exact ⟨rfl,_,World.drewN_drewN _ _ _⟩ | exact ⟨rfl,_,Eq.trans (World.drewN_drewN _ _ _) (congrArg (World.drewN _) (Nat.add_assoc _ _ _))⟩)));try go_wp2_with (first | (go_at_call 45;(with_reducible refine (ZA.calls (wrap64 ((wrap64 (((Ze l0 (ji19)).f1) - ((Ze l0 x5_4).f1))) * (wrap64 (a1 - ((Ze l0 x5_4).f0))))) (wrap64 (((Ze l0 (ji19)).f0) - ((Ze l0 x5_4).f0))) t369 _ A23.out).mono ?_);rintro e w' ⟨rfl,⟨nd,rfl⟩⟩;(try first | exact ⟨rfl,_,World.drewN_drewN _ _ _⟩ | exact ⟨rfl,_,Eq.trans (World.drewN_drewN _ _ _) (congrArg (World.drewN _) (Nat.add_assoc _ _ _))⟩))))
                     go_ret;exact ⟨by first | rfl | (simp;done) | (simp only [← hji19] <;> (first | rfl | simp)) | (simp [*];done),by repeat (first | exact Drawn0.refl _ | apply Drawn0.step)⟩
                   · rw [if_neg c22] at H
                     have c22b0 : (((Ze l0 x5_4).f2) == 1) = false := beq_eq_false_iff_ne.mpr c22;have c22b1 : (((Ze l0 x5_4).f2) != 1) = true := bne_iff_ne.mpr c22;replace H := Option.bind_eq_some_iff.mp H;obtain ⟨t370,A240,H⟩ := H;replace H : (some (wrap64 (((Ze l0 x5_4).f1) + t370))) = some r := H;have A24 := Zd.mk A240;clear A240;obtain rfl := Option.some.inj H;have p363 : 0 ≤ (x5_4 : Int) := of_decide_eq_true (by first | (with_reducible assumption) | assumption);have q363 : x5_4 < (l0.length : Int) := of_decide_eq_true (by first | (with_reducible assumption) | assumption);obtain ⟨ad363,e363,hx363_0,hx363_1,hx363_2⟩ := Xg HR0.out x5_4 p363 q363
                     obtain rfl : ad358 = ad363 := (by injection e363)
                     replace p363 := eq_true p363;replace q363 := eq_true q363;have p364 : 0 ≤ ((ji19) : Int) := of_decide_eq_true (by first | (with_reducible assumption) | assumption);have q364 : (ji19) < (l0.length : Int) := of_decide_eq_true (by first | (with_reducible assumption) | assumption);obtain ⟨ad364,e364,hx364_0,hx364_1,hx364_2⟩ := Xg HR0.out (ji19) p364 q364
                     obtain rfl : ad358 = ad364 := (by injection e364)
                     replace p364 := eq_true p364;replace q364 := eq_true q364;have p365 : 0 ≤ (x5_4 : Int) := of_decide_eq_true (by first | (with_reducible assumption) | assumption);have q365 : x5_4 < (l0.length : Int) := of_decide_eq_true (by first | (with_reducible assumption) | assumption);obtain ⟨ad365,e365,hx365_0,hx365_1,hx365_2⟩ := Xg HR0.out x5_4 p365 q365
                     obtain rfl : ad358 = ad365 := (by injection e365)
                     replace p365 := eq_true p365;replace q365 := eq_true q365;have p366 : 0 ≤ ((ji19) : Int) := of_decide_eq_true (by first | (with_reducible assumption) | assumption);have q366 : (ji19) < (l0.length : Int) := of_decide_eq_true (by first | (with_reducible assumption) | assumption);obtain ⟨ad366,e366,hx366_0,hx366_1,hx366_2⟩ := Xg HR0.out (ji19) p366 q366
                     obtain rfl : ad358 = ad366 := (by injection e366)
                     replace p366 := eq_true p366;replace q366 := eq_true q366;have p367 : 0 ≤ (x5_4 : Int) := of_decide_eq_true (by first | (with_reducible assumption) | assumption);have q367 : x5_4 < (l0.length : Int) := of_decide_eq_true (by first | (with_reducible assumption) | assumption);obtain ⟨ad367,e367,hx367_0,hx367_1,hx367_2⟩ := Xg HR0.out x5_4 p367 q367
                     obtain rfl : ad358 = ad367 := (by injection e367)
                     replace p367 := eq_true p367;replace q367 := eq_true q367;have p368 : 0 ≤ (x5_4 : Int) := of_decide_eq_true (by first | (with_reducible assumption) | assumption);have q368 : x5_4 < (l0.length : Int) := of_decide_eq_true (by first | (with_reducible assumption) | assumption);obtain ⟨ad368,e368,hx368_0,hx368_1,hx368_2⟩ := Xg HR0.out x5_4 p368 q368
                     obtain rfl : ad358 = ad368 := (by injection e368)
                     replace p368 := eq_true p368;replace q368 := eq_true q368
                     go_wp2_with (first | (go_at_call 45;(with_reducible refine (ZA.calls (wrap64 ((wrap64 (((Ze l0 (ji19)).f1) - ((Ze l0 x5_4).f1))) * (wrap64 ((wrap64 ((wrap64 ((wrap64 (3 * (wrap64 (a1 - ((Ze l0 x5_4).f0))))) * (wrap64 (a1 - ((Ze l0 x5_4).f0))))) * (wrap64 (((Ze l0 (ji19)).f0) - ((Ze l0 x5_4).f0))))) - (wrap64 ((wrap64 ((wrap64 (2 * (wrap64 (a1 - ((Ze l0 x5_4).f0))))) * (wrap64 (a1 - ((Ze l0 x5_4).f0))))) * (wrap64 (a1 - ((Ze l0 x5_4).f0))))))))) (wrap64 ((wrap64 ((wrap64 (((Ze l0 (ji19)).f0) - ((Ze l0 x5_4).f0))) * (wrap64 (((Ze l0 (ji19)).f0) - ((Ze l0 x5_4).f0))))) * (wrap64 (((Ze l0 (ji19)).f0) - ((Ze l0 x5_4).f0))))) t370 _ A24.out).mono ?_);rintro e w' ⟨rfl,⟨nd,rfl⟩⟩;(try first | exact ⟨rfl,_,World.drewN_drewN _ _ _⟩ | exact ⟨rfl,_,Eq.trans (World.drewN_drewN _ _ _) (congrArg (World.drewN _) (Nat.add_assoc _ _ _))⟩)))
                     repeat (go_quiet (first | (go_at_call 45;(with_reducible refine (ZA.calls (wrap64 ((wrap64 (((Ze l0 (ji19)).f1) - ((Ze l0 x5_4).f1))) * (wrap64 ((wrap64 ((wrap64 ((wrap64 (3 * (wrap64 (a1 - ((Ze l0 x5_4).f0))))) * (wrap64 (a1 - ((Ze l0 x5_4).f0))))) * (wrap64 (((Ze l0 (ji19)).f0) - ((Ze l0 x5_4).f0))))) - (wrap64 ((wrap64 ((wrap64 (2 * (wrap64 (a1 - ((Ze l0 x5_4).f0))))) * (wrap64 (a1 - ((Ze l0 x5_4).f0))))) * (wrap64 (a1 - ((Ze l0 x5_4).f0))))))))) (wrap64 ((wrap64 ((wrap64 (((Ze l0 (ji19)).f0) - ((Ze l0 x5_4).f0))) * (wrap64 (((Ze l0 (ji19)).f0) - ((Ze l0 x5_4).f0))))) * (wrap64 (((Ze l0 (ji19)).f0) - ((Ze l0 x5_4).f0))))) t370 _ A24.out).mono ?_);rintro e w' ⟨rfl,⟨nd,rfl⟩⟩;(try first | exact ⟨rfl,_,World.drewN_drewN _ _ _⟩ | exact ⟨rfl,_,Eq.trans (World.drewN_drewN _ _ _) (congrArg (World.drewN _) (Nat.add_assoc _ _ _))⟩)));try go_wp2_with (first | (go_at_call 45;(with_reducible refine (ZA.calls (wrap64 ((wrap64 (((Ze l0 (ji19)).f1) - ((Ze l0 x5_4).f1))) * (wrap64 ((wrap64 ((wrap64 ((wrap64 (3 * (wrap64 (a1 - ((Ze l0 x5_4).f0))))) * (wrap64 (a1 - ((Ze l0 x5_4).f0))))) * (wrap64 (((Ze l0 (ji19)).f0) - ((Ze l0 x5_4).f0))))) - (wrap64 ((wrap64 ((wrap64 (2 * (wrap64 (a1 - ((Ze l0 x5_4).f0))))) * (wrap64 (a1 - ((Ze l0 x5_4).f0))))) * (wrap64 (a1 - ((Ze l0 x5_4).f0))))))))) (wrap64 ((wrap64 ((wrap64 (((Ze l0 (ji19)).f0) - ((Ze l0 x5_4).f0))) * (wrap64 (((Ze l0 (ji19)).f0) - ((Ze l0 x5_4).f0))))) * (wrap64 (((Ze l0 (ji19)).f0) - ((Ze l0 x5_4).f0))))) t370 _ A24.out).mono ?_);rintro e w' ⟨rfl,⟨nd,rfl⟩⟩;(try first | exact ⟨rfl,_,World.drewN_drewN _ _ _⟩ | exact ⟨rfl,_,Eq.trans (World.drewN_drewN _ _ _) (congrArg (World.drewN _) (Nat.add_assoc _ _ _))⟩))))
                     go_ret;exact ⟨by first | rfl | (simp;done) | (simp only [← hji19] <;> (first | rfl | simp)) | (simp [*];done),by repeat (first | exact Drawn0.refl _ | apply Drawn0.step)⟩
                 · rw [if_neg c21] at H
                   exact absurd H (by simp)
               · rw [if_neg c20] at H
                 exact absurd H (by simp)
             · rw [if_neg c18] at H
               exact absurd H (by simp)
           · rw [if_neg c17] at H
             exact absurd H (by simp)
 · rw [if_neg c3] at H
   exact absurd H (by simp)
end Go.Proofs.Ytomlfbmfdoallaa.PA

namespace Go.Proofs.Ytomlfbmfdoallaa.PA
open Go.RowKit Go.Proofs.YtomlfbmfdoallaaW.PrintWords Go.Proofs.YtomlfbmfdoallaaW.PrintLast Go.Proofs.YtomlfbmfdoallaaW.PrintMore
attribute [local go_sem] Xf Xe Xj Xk ZV ZU Xd Xc
set_option linter.unusedVariables false
set_option linter.unusedSimpArgs false
def ZM.f (k : Nat) (l0 : List (S56)) (a1 : Int) : Option (Int × Int) := (Zg.f k l0).bind fun t451 => (if t451 = true then ((Zx.f a1).bind fun t452 => (if t452 = true then ((Zp.f k l0 a1).bind fun t453 => (some (t453,0))) else (some (0,7)))) else (some (0,1)))
theorem ZM.mono : ∀ a0 a1 k,LeO (ZM.f k a0 a1) (ZM.f (k + 1) a0 a1) := by
 intro a0 a1 k;unfold ZM.f
 repeat' first
  | (with_reducible exact Zg.mono _ _)
  | (with_reducible exact Zp.mono _ _ _)
  | (with_reducible exact LeO.refl _)
  | (with_reducible exact LeO.none _)
  | (with_reducible refine LeO.ite ?_ ?_)
  | (with_reducible refine LeO.bind ?_ (fun _ => ?_))
  | exact Zg.mono _ _
  | exact Zp.mono _ _ _
  | exact LeO.none _
  | refine LeO.ite ?_ ?_
  | refine LeO.bind ?_ (fun _ => ?_)
set_option maxHeartbeats 8000000 in
set_option maxRecDepth 100000 in
theorem ZM.calls (k : Nat) (A0 : Option Addr) (c0 : Nat) (l0 : List (S56)) (a1 : Int) (r1 : Int) (r2 : Int) (w : World) (hr0 : Kd.C k56 w A0 l0.length l0) (hc0 : l0.length ≤ c0) (h : ZM.f k l0 a1 = some (r1,r2)) :
 Calls Try.prog 35 #[.slice A0 l0.length c0,.int .i64 a1] w fun e w' => e = .returned (.tuple #[.int .i64 r1,.int .i64 r2]) ∧ Below w.heap.size w w' := by
 have HR0 := Zd.mk hr0;have HC0 := Zd.mk hc0;clear hr0 hc0;have HB := Zd.mk (Below.refl w.heap.size w);have H : ((Zg.f k l0).bind fun t451 => (if t451 = true then ((Zx.f a1).bind fun t452 => (if t452 = true then ((Zp.f k l0 a1).bind fun t453 => (some (t453,0))) else (some (0,7)))) else (some (0,1)))) = some (r1,r2) := h;clear h;replace H := Option.bind_eq_some_iff.mp H;obtain ⟨t451,A30,H⟩ := H;replace H : (if t451 = true then ((Zx.f a1).bind fun t452 => (if t452 = true then ((Zp.f k l0 a1).bind fun t453 => (some (t453,0))) else (some (0,7)))) else (some (0,1))) = some (r1,r2) := H;have A3 := Zd.mk A30;clear A30
 by_cases c4 : t451 = true
 · subst c4
   have H1 : ((Zx.f a1).bind fun t452 => (if t452 = true then ((Zp.f k l0 a1).bind fun t453 => (some (t453,0))) else (some (0,7)))) = some (r1,r2) := by rw [if_pos rfl] at H;exact H
   clear H;have H := H1;clear H1;replace H := Option.bind_eq_some_iff.mp H;obtain ⟨t452,A50,H⟩ := H;replace H : (if t452 = true then ((Zp.f k l0 a1).bind fun t453 => (some (t453,0))) else (some (0,7))) = some (r1,r2) := H;have A5 := Zd.mk A50;clear A50
   by_cases c6 : t452 = true
   · subst c6
     have H1 : ((Zp.f k l0 a1).bind fun t453 => (some (t453,0))) = some (r1,r2) := by rw [if_pos rfl] at H;exact H
     clear H;have H := H1;clear H1;replace H := Option.bind_eq_some_iff.mp H;obtain ⟨t453,A70,H⟩ := H;replace H : (some (t453,0)) = some (r1,r2) := H;have A7 := Zd.mk A70;clear A70;simp only [Option.some.injEq,Prod.mk.injEq] at H;obtain ⟨rfl,rfl⟩ := H
     go_enter Try.func35,Try.ntmps35
     go_wp2_with (first | ((with_reducible refine Z2 (f := 37) rfl ?_);refine ZP (some 7) rfl rfl Try.func37 (by kernel_rfl) rfl #[.slice A0 l0.length c0] rfl (by (try simp only [List.map_toArray,List.map_cons,List.map_nil]);first | done | rfl | (simp only [List.length_drop,List.length_take];rfl)) ?_;(with_reducible refine (Zg.calls k _ _ l0 true _ ?side1 ?side2 A3.out).mono ?_);(case side1 => repeat (first | exact HR0.out | (with_reducible refine Kd.Z8 ?_ _) | (with_reducible refine Kd.ZB ?_ _) | (with_reducible refine Kd.ZI ?_)));(case side2 => exact HC0.out);rintro e w8 ⟨rfl,hb⟩;refine ⟨_,rfl,?_⟩;have n0_ := Zd.mk (Z0 (by repeat (first | (with_reducible first | exact HB.out | apply Zc | apply Za | apply Zb) | exact HB.out)) hb);clear HB;have HB := n0_;clear n0_;(try clear hb);(try clear hb2);(try clear hk);(try clear hi)) | ((with_reducible refine Z2 (f := 50) rfl ?_);refine ZP (some 10) rfl rfl Try.func50 (by kernel_rfl) rfl #[.int .i64 a1] rfl (by (try simp only [List.map_toArray,List.map_cons,List.map_nil]);first | done | rfl | (simp only [List.length_drop,List.length_take];rfl)) ?_;(with_reducible refine (Zx.calls a1 true _ A5.out).mono ?_);rintro e w' ⟨rfl,⟨nd,rfl⟩⟩;refine ⟨_,rfl,?_⟩) | ((with_reducible refine Z2 (f := 58) rfl ?_);refine ZP (some 14) rfl rfl Try.func58 (by kernel_rfl) rfl #[.slice A0 l0.length c0,.int .i64 a1] rfl (by (try simp only [List.map_toArray,List.map_cons,List.map_nil]);first | done | rfl | (simp only [List.length_drop,List.length_take];rfl)) ?_;(with_reducible refine (Zp.calls k _ _ l0 a1 t453 _ ?side1 ?side2 A7.out).mono ?_);(case side1 => repeat (first | exact (Kd.ZK HR0.out (by repeat (first | (with_reducible first | exact HB.out | apply Zc | apply Za | apply Zb) | exact HB.out))) | (with_reducible refine Kd.Z8 ?_ _) | (with_reducible refine Kd.ZB ?_ _) | (with_reducible refine Kd.ZI ?_)));(case side2 => exact HC0.out);rintro e w' ⟨rfl,⟨nd,rfl⟩⟩;refine ⟨_,rfl,?_⟩))
     go_ret2
     exact ⟨by first | rfl | (simp [Zt,Zv] <;> rfl) | (simp [*,Zt,Zv] <;> rfl),by repeat (first | (with_reducible first | exact HB.out | apply Zc | apply Za | apply Zb) | exact HB.out)⟩
   · replace c6 := Bool.eq_false_iff.mpr c6
     subst c6
     have H1 : (some (0,7)) = some (r1,r2) := by rw [if_neg (show ¬ (false = true) by decide)] at H;exact H
     clear H;have H := H1;clear H1;simp only [Option.some.injEq,Prod.mk.injEq] at H;obtain ⟨rfl,rfl⟩ := H
     go_enter Try.func35,Try.ntmps35
     go_wp2_with (first | ((with_reducible refine Z2 (f := 37) rfl ?_);refine ZP (some 7) rfl rfl Try.func37 (by kernel_rfl) rfl #[.slice A0 l0.length c0] rfl (by (try simp only [List.map_toArray,List.map_cons,List.map_nil]);first | done | rfl | (simp only [List.length_drop,List.length_take];rfl)) ?_;(with_reducible refine (Zg.calls k _ _ l0 true _ ?side1 ?side2 A3.out).mono ?_);(case side1 => repeat (first | exact HR0.out | (with_reducible refine Kd.Z8 ?_ _) | (with_reducible refine Kd.ZB ?_ _) | (with_reducible refine Kd.ZI ?_)));(case side2 => exact HC0.out);rintro e w9 ⟨rfl,hb⟩;refine ⟨_,rfl,?_⟩;have n0_ := Zd.mk (Z0 (by repeat (first | (with_reducible first | exact HB.out | apply Zc | apply Za | apply Zb) | exact HB.out)) hb);clear HB;have HB := n0_;clear n0_;(try clear hb);(try clear hb2);(try clear hk);(try clear hi)) | ((with_reducible refine Z2 (f := 50) rfl ?_);refine ZP (some 10) rfl rfl Try.func50 (by kernel_rfl) rfl #[.int .i64 a1] rfl (by (try simp only [List.map_toArray,List.map_cons,List.map_nil]);first | done | rfl | (simp only [List.length_drop,List.length_take];rfl)) ?_;(with_reducible refine (Zx.calls a1 false _ A5.out).mono ?_);rintro e w' ⟨rfl,⟨nd,rfl⟩⟩;refine ⟨_,rfl,?_⟩))
     go_ret2
     exact ⟨by first | rfl | (simp [Zt,Zv] <;> rfl) | (simp [*,Zt,Zv] <;> rfl),by repeat (first | (with_reducible first | exact HB.out | apply Zc | apply Za | apply Zb) | exact HB.out)⟩
 · replace c4 := Bool.eq_false_iff.mpr c4
   subst c4
   have H1 : (some (0,1)) = some (r1,r2) := by rw [if_neg (show ¬ (false = true) by decide)] at H;exact H
   clear H;have H := H1;clear H1;simp only [Option.some.injEq,Prod.mk.injEq] at H;obtain ⟨rfl,rfl⟩ := H
   go_enter Try.func35,Try.ntmps35
   go_wp2_with (first | ((with_reducible refine Z2 (f := 37) rfl ?_);refine ZP (some 7) rfl rfl Try.func37 (by kernel_rfl) rfl #[.slice A0 l0.length c0] rfl (by (try simp only [List.map_toArray,List.map_cons,List.map_nil]);first | done | rfl | (simp only [List.length_drop,List.length_take];rfl)) ?_;(with_reducible refine (Zg.calls k _ _ l0 false _ ?side1 ?side2 A3.out).mono ?_);(case side1 => repeat (first | exact HR0.out | (with_reducible refine Kd.Z8 ?_ _) | (with_reducible refine Kd.ZB ?_ _) | (with_reducible refine Kd.ZI ?_)));(case side2 => exact HC0.out);rintro e w10 ⟨rfl,hb⟩;refine ⟨_,rfl,?_⟩;have n0_ := Zd.mk (Z0 (by repeat (first | (with_reducible first | exact HB.out | apply Zc | apply Za | apply Zb) | exact HB.out)) hb);clear HB;have HB := n0_;clear n0_;(try clear hb);(try clear hb2);(try clear hk);(try clear hi)))
   go_ret2
   exact ⟨by first | rfl | (simp [Zt,Zv] <;> rfl) | (simp [*,Zt,Zv] <;> rfl),by repeat (first | (with_reducible first | exact HB.out | apply Zc | apply Za | apply Zb) | exact HB.out)⟩
end Go.Proofs.Ytomlfbmfdoallaa.PA

namespace Go.Proofs.Ytomlfbmfdoallaa.PA
open Go.RowKit Go.Proofs.YtomlfbmfdoallaaW.PrintWords Go.Proofs.YtomlfbmfdoallaaW.PrintLast Go.Proofs.YtomlfbmfdoallaaW.PrintMore
attribute [local go_sem] Xf Xe Xj Xk ZV ZU Xd Xc
set_option linter.unusedVariables false
set_option linter.unusedSimpArgs false
mutual
def ZS.l0 : Nat → List (S56) → Int → Int → List (S56) → Int → Int → Option (Int)
 | 0,_,_,_,_,_,_ => none
 | k + 1,x0,x1,x5,x8,x9,x10 => if x10 < x9 then (if 0 ≤ x10 then (if x10 < (x8.length : Int) then (if ((Ze x8 x10).f0) ≤ x1 then (ZS.j1 k x0 x1 x5 x8 x9 x10 (decide ((wrap64 (x10 + 1)) < (x0.length : Int))) ((Ze x8 x10).f0) ((Ze x8 x10).f1) ((Ze x8 x10).f2)) else (ZS.j1 k x0 x1 x5 x8 x9 x10 false ((Ze x8 x10).f0) ((Ze x8 x10).f1) ((Ze x8 x10).f2))) else (none)) else (none)) else (some x5)
def ZS.j1 : Nat → List (S56) → Int → Int → List (S56) → Int → Int → Bool → Int → Int → Int → Option (Int)
 | 0,_,_,_,_,_,_,_,_,_,_ => none
 | k + 1,x0,x1,x5,x8,x9,x10,x25,x590000,x590001,x590002 => if x25 = true then (ZS.l0 k x0 x1 x590002 x8 x9 (wrap64 (x10 + 1))) else (if x590000 ≤ x1 then (ZS.l0 k x0 x1 0 x8 x9 (wrap64 (x10 + 1))) else (ZS.l0 k x0 x1 x5 x8 x9 (wrap64 (x10 + 1))))
end
def ZS.f (k : Nat) (l0 : List (S56)) (a1 : Int) : Option (Int) := ZS.l0 k l0 a1 0 l0 (l0.length : Int) 0
theorem ZS.Xm : ∀ k,(∀ y0 y1 y2 y3 y4 y5,LeO (ZS.l0 k y0 y1 y2 y3 y4 y5) (ZS.l0 (k + 1) y0 y1 y2 y3 y4 y5)) ∧ (∀ y0 y1 y2 y3 y4 y5 y6 y7 y8 y9,LeO (ZS.j1 k y0 y1 y2 y3 y4 y5 y6 y7 y8 y9) (ZS.j1 (k + 1) y0 y1 y2 y3 y4 y5 y6 y7 y8 y9))
 | 0 => ⟨fun _ _ _ _ _ _ r h => by simp [ZS.l0] at h,fun _ _ _ _ _ _ _ _ _ _ r h => by simp [ZS.j1] at h⟩
 | k + 1 => by
  obtain ⟨ih0,ih1⟩ := ZS.Xm k;refine ⟨?_,?_⟩
  · intro y0 y1 y2 y3 y4 y5
    unfold ZS.l0
    repeat' first
    | (with_reducible exact ih0 _ _ _ _ _ _)
    | (with_reducible exact ih1 _ _ _ _ _ _ _ _ _ _)
    | (with_reducible exact LeO.refl _)
    | (with_reducible exact LeO.none _)
    | (with_reducible refine LeO.ite ?_ ?_)
    | (with_reducible refine LeO.bind ?_ (fun _ => ?_))
    | exact ih0 _ _ _ _ _ _
    | exact ih1 _ _ _ _ _ _ _ _ _ _
    | exact LeO.none _
    | refine LeO.ite ?_ ?_
    | refine LeO.bind ?_ (fun _ => ?_)
  · intro y0 y1 y2 y3 y4 y5 y6 y7 y8 y9
    unfold ZS.j1
    repeat' first
    | (with_reducible exact ih0 _ _ _ _ _ _)
    | (with_reducible exact ih1 _ _ _ _ _ _ _ _ _ _)
    | (with_reducible exact LeO.refl _)
    | (with_reducible exact LeO.none _)
    | (with_reducible refine LeO.ite ?_ ?_)
    | (with_reducible refine LeO.bind ?_ (fun _ => ?_))
    | exact ih0 _ _ _ _ _ _
    | exact ih1 _ _ _ _ _ _ _ _ _ _
    | exact LeO.none _
    | refine LeO.ite ?_ ?_
    | refine LeO.bind ?_ (fun _ => ?_)
theorem ZS.mono : ∀ a0 a1 k,LeO (ZS.f k a0 a1) (ZS.f (k + 1) a0 a1) := by
 intro a0 a1 k;obtain ⟨ih0,ih1⟩ := ZS.Xm k;unfold ZS.f
 repeat' first
  | (with_reducible exact ih0 _ _ _ _ _ _)
  | (with_reducible exact ih1 _ _ _ _ _ _ _ _ _ _)
  | (with_reducible exact LeO.refl _)
  | (with_reducible exact LeO.none _)
  | (with_reducible refine LeO.ite ?_ ?_)
  | (with_reducible refine LeO.bind ?_ (fun _ => ?_))
  | exact ih0 _ _ _ _ _ _
  | exact ih1 _ _ _ _ _ _ _ _ _ _
  | exact LeO.none _
  | refine LeO.ite ?_ ?_
  | refine LeO.bind ?_ (fun _ => ?_)
set_option maxHeartbeats 8000000 in
set_option maxRecDepth 100000 in
theorem ZS.calls (k : Nat) (A0 : Option Addr) (c0 : Nat) (l0 : List (S56)) (a1 : Int) (r : Int) (w : World) (hr0 : Kd.C k56 w A0 l0.length l0) (hc0 : l0.length ≤ c0) (h : ZS.f k l0 a1 = some r) :
 Calls Try.prog 64 #[.slice A0 l0.length c0,.int .i64 a1] w fun e w' => e = .returned (.int .i64 r) ∧ Below w.heap.size w w' := by
 have hu56 := Try.underlying56;have HR0 := Zd.mk hr0;have HC0 := Zd.mk hc0;clear hr0 hc0;have HB := Zd.mk (Below.refl w.heap.size w);have H : (ZS.l0 k l0 a1 0 l0 (l0.length : Int) 0) = some r := h;clear h;have H' := Zd.mk H;clear H
 go_enter Try.func64,Try.ntmps64
 go_wp2
 go_loopg [5,10] k (fun kq v5 v10 w' => ∃ (x5_1 : Int) (x10_1 : Int),v5 = .int .i64 x5_1 ∧ v10 = .int .i64 x10_1 ∧ Zd (ZS.l0 kq l0 a1 x5_1 l0 (l0.length : Int) x10_1 = some r) ∧ Zd (kq ≤ k) ∧ Zd (Below w.heap.size w w'))
 case atStart => exact ⟨(0),(0),(by first | rfl | (simp;done) | (simp [*];done)),(by first | rfl | (simp;done) | (simp [*];done)),H',⟨Nat.le_refl _⟩,⟨by repeat (first | (with_reducible first | exact HB.out | apply Zc | apply Za | apply Zb) | exact HB.out)⟩⟩
 case round =>
  clear H'
  (try clear p2)
  obtain ⟨x5_1,x10_1,rfl,rfl,HA,HK1,HB⟩ := hrel
  cases gk with
  | zero => exact absurd HA.out (by simp [ZS.l0])
  | succ k1 =>
   have H := HA.out;clear HA;simp only [ZS.l0] at H
   by_cases c3 : x10_1 < (l0.length : Int)
   · rw [if_pos c3] at H
     have c3b0 : decide (x10_1 < (l0.length : Int)) = true := decide_eq_true c3;clear c3
     by_cases c4 : 0 ≤ x10_1
     · rw [if_pos c4] at H
       have c4b0 : decide (0 ≤ x10_1) = true := decide_eq_true c4;clear c4
       by_cases c5 : x10_1 < (l0.length : Int)
       · rw [if_pos c5] at H
         have c5b0 : decide (x10_1 < (l0.length : Int)) = true := decide_eq_true c5;clear c5;have HC6 := Zd.mk H;clear H;have p588 : 0 ≤ (x10_1 : Int) := of_decide_eq_true (by first | (with_reducible assumption) | assumption);have q588 : x10_1 < (l0.length : Int) := of_decide_eq_true (by first | (with_reducible assumption) | assumption);obtain ⟨ad588,e588,hx588_0,hx588_1,hx588_2⟩ := Xg HR0.out x10_1 p588 q588
         cases e588
         replace hx588_0 := (HB.out.cell (World.block_lt_of_cell? w _ hx588_0)).trans hx588_0;replace hx588_1 := (HB.out.cell (World.block_lt_of_cell? w _ hx588_1)).trans hx588_1;replace hx588_2 := (HB.out.cell (World.block_lt_of_cell? w _ hx588_2)).trans hx588_2;replace p588 := eq_true p588;replace q588 := eq_true q588
         go_upto_region 5 with (first | ((with_reducible refine Xq (N := 7) rfl ?_);(try (refine XD (by rfl) ?_;dsimp only));refine Xy ?hg (N := 7) ?hd (cs := #[.int .i64 0,.int .i64 0,.int .i64 0]) (t := 56) ?hr ?_;(case hd => rfl);(case hg => rfl);(case hr => first | (go_simp;done) | (go_simp;rfl));intro gb589 hg w7 hbox hb;have n0_ := Zd.mk (Z0 (by repeat (first | (with_reducible first | exact HB.out | apply Zc | apply Za | apply Zb) | exact HB.out)) hb);have n1_ := Zd.mk (hbox);have n2_ := Zd.mk ((by rw [hg];exact (ZJ (by repeat (first | (with_reducible first | exact HB.out | apply Zc | apply Za | apply Zb) | exact HB.out))) : w.heap.size ≤ gb589));have n3_ := Zd.mk ((by rw [hg];exact (ZJ (by repeat (first | (with_reducible first | exact HB.out | apply Zc | apply Za | apply Zb) | exact HB.out))) : w.heap.size ≤ gb589));clear HB;have HB := n0_;have BK589 := n1_;have GW589 := n2_;have GE589 := n3_;clear n0_ n1_ n2_ n3_;clear hb hbox hg;have hcz8_0 : w7.cell? ⟨gb589,0,none⟩ = some (.int .i64 0) := (Zm BK589.out 0).trans rfl;have hcz8_1 : w7.cell? ⟨gb589,1,none⟩ = some (.int .i64 0) := (Zm BK589.out 1).trans rfl;have hcz8_2 : w7.cell? ⟨gb589,2,none⟩ = some (.int .i64 0) := (Zm BK589.out 2).trans rfl;have hfz8_0 := Zr BK589.out 0;have hfz8_1 := Zr BK589.out 1;have hfz8_2 := Zr BK589.out 2))
         (try simp only [Act.put,YV,YW,YX])
         go_cut [25] (fun v25 wc => ∃ (kq : Nat) (x25_5 : Bool),v25 = .bool x25_5 ∧ Zd (ZS.j1 kq l0 a1 x5_1 l0 (l0.length : Int) x10_1 x25_5 ((Ze l0 x10_1).f0) ((Ze l0 x10_1).f1) ((Ze l0 x10_1).f2) = some r) ∧ Zd (kq ≤ k1) ∧ Zd (wc.heap[gb589]? = some (.cells #[.int .i64 ((Ze l0 x10_1).f0),.int .i64 ((Ze l0 x10_1).f1),.int .i64 ((Ze l0 x10_1).f2)] 56 (0,0))) ∧ Zd (Below w.heap.size w wc))
         case first =>
          have H := HC6.out;clear HC6
          by_cases c9 : ((Ze l0 x10_1).f0) ≤ a1
          · rw [if_pos c9] at H
            have c9b0 : decide (((Ze l0 x10_1).f0) ≤ a1) = true := decide_eq_true c9;clear c9
            (first | rw [c9b0] | (simp only [i64_w,i32_w];rw [c9b0]) | skip)
            have H' := Zd.mk H;clear H;have hcz10_0 : w7.cell? ⟨gb589,0,none⟩ = some (.int .i64 0) := (Zm BK589.out 0).trans rfl;have hcz10_1 : w7.cell? ⟨gb589,1,none⟩ = some (.int .i64 0) := (Zm BK589.out 1).trans rfl;have hcz10_2 : w7.cell? ⟨gb589,2,none⟩ = some (.int .i64 0) := (Zm BK589.out 2).trans rfl;have hfz10_0 := Zr BK589.out 0;have hfz10_1 := Zr BK589.out 1;have hfz10_2 := Zr BK589.out 2
            go_wp2
            go_meet
            case rel => exact ⟨_,(decide ((wrap64 (x10_1 + 1)) < (l0.length : Int))),(by first | rfl | (simp;done) | (simp [*];done)),H',⟨by have := HK1.out;first | omega | exact Nat.le_refl _⟩,⟨by (with_reducible repeat (first | refine Zu ?_ _ | refine Zw ?_ | refine Zs ?_ _));refine ZE (cs := #[.int .i64 ((Ze l0 x10_1).f0),.int .i64 ((Ze l0 x10_1).f1),.int .i64 0]) ?_ 2 _ rfl;(with_reducible repeat (first | refine Zu ?_ _ | refine Zw ?_ | refine Zs ?_ _));refine ZE (cs := #[.int .i64 ((Ze l0 x10_1).f0),.int .i64 0,.int .i64 0]) ?_ 1 _ rfl;(with_reducible repeat (first | refine Zu ?_ _ | refine Zw ?_ | refine Zs ?_ _));refine ZE (cs := #[.int .i64 0,.int .i64 0,.int .i64 0]) ?_ 0 _ rfl;(with_reducible repeat (first | refine Zu ?_ _ | refine Zw ?_ | refine Zs ?_ _));exact BK589.out⟩,⟨by repeat (first | (with_reducible first | exact HB.out | apply Zc | apply Za | apply Zb | refine Z9 ?_ GE589.out) | exact HB.out)⟩⟩
          · rw [if_neg c9] at H
            have c9b0 : decide (((Ze l0 x10_1).f0) ≤ a1) = false := decide_eq_false c9;clear c9
            (first | rw [c9b0] | (simp only [i64_w,i32_w];rw [c9b0]) | skip)
            have H' := Zd.mk H;clear H;have hcz11_0 : w7.cell? ⟨gb589,0,none⟩ = some (.int .i64 0) := (Zm BK589.out 0).trans rfl;have hcz11_1 : w7.cell? ⟨gb589,1,none⟩ = some (.int .i64 0) := (Zm BK589.out 1).trans rfl;have hcz11_2 : w7.cell? ⟨gb589,2,none⟩ = some (.int .i64 0) := (Zm BK589.out 2).trans rfl;have hfz11_0 := Zr BK589.out 0;have hfz11_1 := Zr BK589.out 1;have hfz11_2 := Zr BK589.out 2
            go_wp2
            go_meet
            case rel => exact ⟨_,(false),(by first | rfl | (simp;done) | (simp [*];done)),H',⟨by have := HK1.out;first | omega | exact Nat.le_refl _⟩,⟨by (with_reducible repeat (first | refine Zu ?_ _ | refine Zw ?_ | refine Zs ?_ _));refine ZE (cs := #[.int .i64 ((Ze l0 x10_1).f0),.int .i64 ((Ze l0 x10_1).f1),.int .i64 0]) ?_ 2 _ rfl;(with_reducible repeat (first | refine Zu ?_ _ | refine Zw ?_ | refine Zs ?_ _));refine ZE (cs := #[.int .i64 ((Ze l0 x10_1).f0),.int .i64 0,.int .i64 0]) ?_ 1 _ rfl;(with_reducible repeat (first | refine Zu ?_ _ | refine Zw ?_ | refine Zs ?_ _));refine ZE (cs := #[.int .i64 0,.int .i64 0,.int .i64 0]) ?_ 0 _ rfl;(with_reducible repeat (first | refine Zu ?_ _ | refine Zw ?_ | refine Zs ?_ _));exact BK589.out⟩,⟨by repeat (first | (with_reducible first | exact HB.out | apply Zc | apply Za | apply Zb | refine Z9 ?_ GE589.out) | exact HB.out)⟩⟩
         case rest =>
          clear HC6
          (try clear p2); (try clear c3); (try clear c3b0); (try clear c4); (try clear c4b0); (try clear c5); (try clear c5b0); (try clear p5); (try clear q5); (try clear hx5); (try clear c6); (try clear p6); (try clear c9); (try clear c9b0); (try clear hcz10_0); (try clear hcz10_1); (try clear hcz10_2); (try clear hcz11_0); (try clear hcz11_1); (try clear hcz11_2); (try clear hcz8_0); (try clear hcz8_1); (try clear hcz8_2); (try clear hfz10_0); (try clear hfz10_1); (try clear hfz10_2); (try clear hfz11_0); (try clear hfz11_1); (try clear hfz11_2); (try clear hfz8_0); (try clear hfz8_1); (try clear hfz8_2); (try clear hx588_0); (try clear hx588_1); (try clear hx588_2); (try clear p2); (try clear p588); (try clear q588)
          obtain ⟨kq,x25_5,rfl,HA,HJ5,BK589,HB⟩ := hcut
          cases kq with
          | zero => exact absurd HA.out (by simp [ZS.j1])
          | succ kj5 =>
           have H := HA.out;clear HA;simp only [ZS.j1] at H
           by_cases c12 : x25_5 = true
           · subst c12
             have H1 : (ZS.l0 kj5 l0 a1 ((Ze l0 x10_1).f2) l0 (l0.length : Int) (wrap64 (x10_1 + 1))) = some r := by rw [if_pos rfl] at H;exact H
             clear H;have H := H1;clear H1;have H' := Zd.mk H;clear H;have hcz13_0 : wc.cell? ⟨gb589,0,none⟩ = some (.int .i64 ((Ze l0 x10_1).f0)) := (Zm BK589.out 0).trans rfl;have hcz13_1 : wc.cell? ⟨gb589,1,none⟩ = some (.int .i64 ((Ze l0 x10_1).f1)) := (Zm BK589.out 1).trans rfl;have hcz13_2 : wc.cell? ⟨gb589,2,none⟩ = some (.int .i64 ((Ze l0 x10_1).f2)) := (Zm BK589.out 2).trans rfl;have hfz13_0 := Zr BK589.out 0;have hfz13_1 := Zr BK589.out 1;have hfz13_2 := Zr BK589.out 2
             go_wp2
             go_roundg kj5
             case measure => have := HK1.out;have := HJ5.out;omega
             case rel => exact ⟨(((Ze l0 x10_1).f2)),(wrap64 (x10_1 + 1)),(by first | rfl | (simp;done) | (simp [*];done)),(by first | rfl | (simp;done) | (simp [*];done)),H',⟨by have := HK1.out;have := HJ5.out;omega⟩,⟨by repeat (first | (with_reducible first | exact HB.out | apply Zc | apply Za | apply Zb | refine Z9 ?_ GE589.out) | exact HB.out)⟩⟩
           · replace c12 := Bool.eq_false_iff.mpr c12
             subst c12
             have H1 : (if ((Ze l0 x10_1).f0) ≤ a1 then (ZS.l0 kj5 l0 a1 0 l0 (l0.length : Int) (wrap64 (x10_1 + 1))) else (ZS.l0 kj5 l0 a1 x5_1 l0 (l0.length : Int) (wrap64 (x10_1 + 1)))) = some r := by rw [if_neg (show ¬ (false = true) by decide)] at H;exact H
             clear H;have H := H1;clear H1
             by_cases c14 : ((Ze l0 x10_1).f0) ≤ a1
             · rw [if_pos c14] at H
               have c14b0 : decide (((Ze l0 x10_1).f0) ≤ a1) = true := decide_eq_true c14;clear c14;have H' := Zd.mk H;clear H;have hcz15_0 : wc.cell? ⟨gb589,0,none⟩ = some (.int .i64 ((Ze l0 x10_1).f0)) := (Zm BK589.out 0).trans rfl;have hcz15_1 : wc.cell? ⟨gb589,1,none⟩ = some (.int .i64 ((Ze l0 x10_1).f1)) := (Zm BK589.out 1).trans rfl;have hcz15_2 : wc.cell? ⟨gb589,2,none⟩ = some (.int .i64 ((Ze l0 x10_1).f2)) := (Zm BK589.out 2).trans rfl;have hfz15_0 := Zr BK589.out 0;have hfz15_1 := Zr BK589.out 1;have hfz15_2 := Zr BK589.out 2
               go_wp2
               go_roundg kj5
               case measure => have := HK1.out;have := HJ5.out;omega
               case rel => exact ⟨(0),(wrap64 (x10_1 + 1)),(by first | rfl | (simp;done) | (simp [*];done)),(by first | rfl | (simp;done) | (simp [*];done)),H',⟨by have := HK1.out;have := HJ5.out;omega⟩,⟨by repeat (first | (with_reducible first | exact HB.out | apply Zc | apply Za | apply Zb | refine Z9 ?_ GE589.out) | exact HB.out)⟩⟩
             · rw [if_neg c14] at H
               have c14b0 : decide (((Ze l0 x10_1).f0) ≤ a1) = false := decide_eq_false c14;clear c14;have H' := Zd.mk H;clear H;have hcz16_0 : wc.cell? ⟨gb589,0,none⟩ = some (.int .i64 ((Ze l0 x10_1).f0)) := (Zm BK589.out 0).trans rfl;have hcz16_1 : wc.cell? ⟨gb589,1,none⟩ = some (.int .i64 ((Ze l0 x10_1).f1)) := (Zm BK589.out 1).trans rfl;have hcz16_2 : wc.cell? ⟨gb589,2,none⟩ = some (.int .i64 ((Ze l0 x10_1).f2)) := (Zm BK589.out 2).trans rfl;have hfz16_0 := Zr BK589.out 0;have hfz16_1 := Zr BK589.out 1;have hfz16_2 := Zr BK589.out 2
               go_wp2
               go_roundg kj5
               case measure => have := HK1.out;have := HJ5.out;omega
               case rel => exact ⟨(x5_1),(wrap64 (x10_1 + 1)),(by first | rfl | (simp;done) | (simp [*];done)),(by first | rfl | (simp;done) | (simp [*];done)),H',⟨by have := HK1.out;have := HJ5.out;omega⟩,⟨by repeat (first | (with_reducible first | exact HB.out | apply Zc | apply Za | apply Zb | refine Z9 ?_ GE589.out) | exact HB.out)⟩⟩
       · rw [if_neg c5] at H
         exact absurd H (by simp)
     · rw [if_neg c4] at H
       exact absurd H (by simp)
   · rw [if_neg c3] at H
     have c3b0 : decide (x10_1 < (l0.length : Int)) = false := decide_eq_false c3;clear c3;obtain rfl := Option.some.inj H
     go_wp2
     go_ret;exact ⟨by first | rfl | (simp [Zt,Zv] <;> rfl) | (simp [*,Zt,Zv] <;> rfl),by repeat (first | (with_reducible first | exact HB.out | apply Zc | apply Za | apply Zb) | exact HB.out)⟩
end Go.Proofs.Ytomlfbmfdoallaa.PA

namespace Go.Proofs.Ytomlfbmfdoallaa.PA
open Go.Shelf Go.Proofs
def sortL_ren : Go.Shelf.Ren := ⟨fun | 5 => 59 | 8 => 77 | 7 => 76 | 19 => 92 | 20 => 93 | 10 => 83 | 11 => 84 | 12 => 85 | 13 => 86 | 14 => 87 | 15 => 88 | 16 => 89 | 17 => 90 | 18 => 91 | 30 => 94 | 31 => 95 | 32 => 96 | 33 => 97 | 34 => 98 | 35 => 99 | 40 => 100 | n => n,fun | 23 => 46 | 25 => 3 | 3 => 3 | 32 => 100 | 22 => 46 | 0 => 0 | 44 => 117 | 46 => 119 | 4 => 4 | 36 => 109 | 35 => 108 | 41 => 114 | 5 => 5 | 9 => 9 | 53 => 120 | 57 => 124 | 63 => 126 | 64 => 127 | n => n,fun | n => n⟩
theorem sortL : Go.Proofs.SlLaysM.n5 Try.prog sortL_ren := {
 mixed := by kernel_rfl
 f5 := ⟨Try.f59.name,by decide,Try.func59.trans (congrArg some (by kernel_rfl))⟩
 f7 := ⟨Try.f76.name,by decide,Try.func76.trans (congrArg some (by kernel_rfl))⟩
 f8 := Try.func77.trans (congrArg some (by kernel_rfl))
 f10 := ⟨Try.f83.name,by decide,Try.func83.trans (congrArg some (by kernel_rfl))⟩
 f11 := ⟨Try.f84.name,by decide,Try.func84.trans (congrArg some (by kernel_rfl))⟩
 f12 := ⟨Try.f85.name,by decide,Try.func85.trans (congrArg some (by kernel_rfl))⟩
 f13 := ⟨Try.f86.name,by decide,Try.func86.trans (congrArg some (by kernel_rfl))⟩
 f14 := ⟨Try.f87.name,by decide,Try.func87.trans (congrArg some (by kernel_rfl))⟩
 f15 := ⟨Try.f88.name,by decide,Try.func88.trans (congrArg some (by kernel_rfl))⟩
 f16 := ⟨Try.f89.name,by decide,Try.func89.trans (congrArg some (by kernel_rfl))⟩
 f17 := ⟨Try.f90.name,by decide,Try.func90.trans (congrArg some (by kernel_rfl))⟩
 f18 := ⟨Try.f91.name,by decide,Try.func91.trans (congrArg some (by kernel_rfl))⟩
 f19 := Try.func92.trans (congrArg some (by kernel_rfl))
 f20 := Try.func93.trans (congrArg some (by kernel_rfl))
 f30 := ⟨Try.f94.name,by decide,Try.func94.trans (congrArg some (by kernel_rfl))⟩
 f31 := Try.func95.trans (congrArg some (by kernel_rfl))
 f32 := Try.func96.trans (congrArg some (by kernel_rfl))
 f33 := ⟨Try.f97.name,by decide,Try.func97.trans (congrArg some (by kernel_rfl))⟩
 f34 := ⟨Try.f98.name,by decide,Try.func98.trans (congrArg some (by kernel_rfl))⟩
 f35 := ⟨Try.f99.name,by decide,Try.func99.trans (congrArg some (by kernel_rfl))⟩
 f40 := ⟨Try.f100.name,by decide,Try.func100.trans (congrArg some (by kernel_rfl))⟩
 t0 := Try.underlying0
 a0 := Try.isAgg0
 z0 := Try.sizeOf0
 v0 := Try.zeroValue0
 t3 := Try.underlying3
 a3 := Try.isAgg3
 z3 := Try.sizeOf3
 v3 := Try.zeroValue3
 t4 := Try.underlying4
 a4 := Try.isAgg4
 z4 := Try.sizeOf4
 v4 := Try.zeroValue4
 t5 := Try.underlying5
 a5 := Try.isAgg5
 z5 := Try.sizeOf5
 v5 := Try.zeroValue5
 t9 := Try.underlying9
 a9 := Try.isAgg9
 z9 := Try.sizeOf9
 v9 := Try.zeroValue9
 t22 := Try.underlying46
 a22 := Try.isAgg46
 z22 := Try.sizeOf46
 v22 := Try.zeroValue46
 t23 := Try.underlying46
 a23 := Try.isAgg46
 z23 := Try.sizeOf46
 v23 := Try.zeroValue46
 t25 := Try.underlying3
 a25 := Try.isAgg3
 z25 := Try.sizeOf3
 v25 := Try.zeroValue3
 t32 := Try.underlying100
 a32 := Try.isAgg100
 z32 := Try.sizeOf100
 v32 := Try.zeroValue100
 t35 := Try.underlying108
 a35 := Try.isAgg108
 z35 := Try.sizeOf108
 v35 := Try.zeroValue108
 t36 := Try.underlying109
 a36 := Try.isAgg109
 z36 := Try.sizeOf109
 v36 := Try.zeroValue109
 t41 := Try.underlying114
 a41 := Try.isAgg114
 z41 := Try.sizeOf114
 v41 := Try.zeroValue114
 t44 := Try.underlying117
 a44 := Try.isAgg117
 z44 := Try.sizeOf117
 v44 := Try.zeroValue117
 t46 := Try.underlying119
 a46 := Try.isAgg119
 z46 := Try.sizeOf119
 v46 := Try.zeroValue119
 t53 := Try.underlying120
 a53 := Try.isAgg120
 z53 := Try.sizeOf120
 v53 := Try.zeroValue120
 t57 := Try.underlying124
 a57 := Try.isAgg124
 z57 := Try.sizeOf124
 v57 := Try.zeroValue124
 t63 := Try.underlying126
 a63 := Try.isAgg126
 z63 := Try.sizeOf126
 v63 := Try.zeroValue126
 t64 := Try.underlying127
 a64 := Try.isAgg127
 z64 := Try.sizeOf127
 v64 := Try.zeroValue127 }
def compactL_ren : Go.Shelf.Ren := ⟨fun | 43 => 60 | n => n,fun | 22 => 46 | 23 => 3 | 3 => 3 | 4 => 4 | 0 => 0 | n => n,fun | n => n⟩
theorem compactL : Go.Proofs.SlLaysN.n43 Try.prog compactL_ren := {
 mixed := by kernel_rfl
 f43 := ⟨Try.f60.name,by decide,Try.func60.trans (congrArg some (by kernel_rfl))⟩
 t0 := Try.underlying0
 a0 := Try.isAgg0
 z0 := Try.sizeOf0
 v0 := Try.zeroValue0
 t3 := Try.underlying3
 a3 := Try.isAgg3
 z3 := Try.sizeOf3
 v3 := Try.zeroValue3
 t4 := Try.underlying4
 a4 := Try.isAgg4
 z4 := Try.sizeOf4
 v4 := Try.zeroValue4
 t22 := Try.underlying46
 a22 := Try.isAgg46
 z22 := Try.sizeOf46
 v22 := Try.zeroValue46
 t23 := Try.underlying3
 a23 := Try.isAgg3
 z23 := Try.sizeOf3
 v23 := Try.zeroValue3
 i23 := by kernel_rfl }
end Go.Proofs.Ytomlfbmfdoallaa.PA

namespace Go.Proofs.Ytomlfbmfdoallaa.PA
open Go.RowKit Go.Shelf Go.Sort Go.Proofs.YtomlfbmfdoallaaW.PrintWords Go.Proofs.YtomlfbmfdoallaaW.PrintLast
set_option linter.unusedVariables false
set_option linter.unusedSimpArgs false
def sortI (zs : List Int) : List Int := zs.mergeSort fun x y => decide (x ≤ y)
abbrev mk3 (zs : List Int) : List Value := zs.map (Value.int .i64)
theorem sort_own {W : World} {base g cap : Nat} {zs : List Int} (h : W.ownsRow base 3 1 (.slice (some ⟨g,0,none⟩) zs.length cap) zs.length (mk3 zs)) (hsz : zs.length < 4611686018427387904) :
 Calls Try.prog 59 #[.slice (some ⟨g,0,none⟩) zs.length cap] W fun e w' => e = .returned (.tuple #[]) ∧ W.grownBy w' (some g) ∧ w'.ownsRow base 3 1 (.slice (some ⟨g,0,none⟩) zs.length cap) zs.length (mk3 (sortI zs)) := by
 rcases h.2 with ⟨e,_⟩ | ⟨g',cap',cur,e,hb,hgb,hn,hm,hcs,ht⟩
 · cases e
 cases e
 rw [Nat.mul_one] at ht;refine (AnyM.slices_Sort_int sortL g 0 cap zs W (holds_of_blockI hgb ht) (Array.getElem?_eq_some_iff.1 hgb).1 hsz).mono ?_;rintro e w' ⟨rfl,n,os,rfl⟩;exact ⟨rfl,grownBy_sortedI _,ownsRow_sortedI (by simp) hb hgb hn hm hcs⟩
theorem compact_own {W : World} {base g cap : Nat} {zs : List Int} (h : W.ownsRow base 3 1 (.slice (some ⟨g,0,none⟩) zs.length cap) zs.length (mk3 zs)) (hsz : zs.length < 4611686018427387904) :
 Calls Try.prog 60 #[.slice (some ⟨g,0,none⟩) zs.length cap] W fun e w' => e = .returned (.slice (some ⟨g,0,none⟩) (Lib.compact zs).length cap) ∧ W.grownBy w' (some g) ∧ w'.ownsRow base 3 1 (.slice (some ⟨g,0,none⟩) (Lib.compact zs).length cap) (Lib.compact zs).length (mk3 (Lib.compact zs)) := by
 rcases h.2 with ⟨e,_⟩ | ⟨g',cap',cur,e,hb,hgb,hn,hm,hcs,ht⟩
 · cases e
 cases e
 rw [Nat.mul_one] at ht;refine (AnyG.slices_Compact_int compactL g 0 cap zs W (holds_of_blockI hgb ht) (by omega) hn).mono ?_;rintro e w' ⟨rfl,q,rfl⟩
 have hle : (Lib.compact zs).length ≤ zs.length := by
  exact Lib.compact_length_le zs
 have e1 : (putRow (Value.int .i64) (Sort.ahead W q) g 0 (Lib.compact zs ++ List.replicate (zs.length - (Lib.compact zs).length) 0).toArray) = grow (putRow (Value.int .i64) (Sort.ahead W q) g 0 (Lib.compact zs ++ List.replicate (zs.length - (Lib.compact zs).length) 0).toArray) #[] := (grow_empty _).symm;rw [e1];have h2 := ownsRow_sortedI (n := q) (os := #[]) (ss := zs) (ts := Lib.compact zs ++ List.replicate (zs.length - (Lib.compact zs).length) 0) (by simp;omega) hb hgb hn hm hcs;refine ⟨rfl,grownBy_sortedI _,?_⟩
 rcases h2.2 with ⟨e,_⟩ | ⟨g',cap',cur',e,hb',hgb',hn',hm',hcs',ht'⟩
 · cases e
 cases e
 refine ⟨by simp,.inr ⟨g,cap,cur',rfl,hb',hgb',by omega,hm',hcs',?_⟩⟩;rw [Nat.mul_one] at ht' ⊢;have := congrArg (List.take (Lib.compact zs).length) ht';rw [List.take_take,Nat.min_eq_left hle,List.map_append] at this;rw [this];simp
def isT (l : List S56) (at_ : Int) : Bool := l.any fun p => p.f0 == at_
theorem enters63 : ∀ args w,(callFunc 63 args).run Try.prog w = .ok (.enter 63 args) w := Go.Proofs.enters_of Try.func63 (by kernel_rfl) rfl
theorem cut11_calls (x : S56) (b : Nat) (n : Int) (W : World) (hb : W.cell? ⟨b,0,none⟩ = some (.int .i64 n)) :
 Calls Try.prog 63 #[.agg (c56 x),.pointer (some ⟨b,0,none⟩)] W fun e w' => e = .returned (.bool (x.f0 == n)) ∧ Below W.heap.size W w' := by
 have l1 : b < W.heap.size := World.block_lt_of_cell? _ _ hb;unfold c56
 go_enter Try.func63,Try.ntmps63
 go_wp2
 go_ret;exact ⟨by simp,(Below.refl _ _).alloc (Nat.le_refl _) _⟩
theorem any_idx {α : Type} (p : α → Bool) (l : List α) : decide (0 ≤ idxOf p l) = l.any p := by
 unfold idxOf;have h := XI p l 0
 cases hq : l.any p with
 | false => rw [h,hq];rfl
 | true =>
  have : ∀ (l : List α) (i : Int),0 ≤ i → l.any p = true → 0 ≤ idxFrom p i l := by
   intro l
   induction l with
   | nil => intro i hi h;simp at h
   | cons x r ih =>
    intro i hi h;unfold idxFrom;split
    · exact hi
    · rename_i hx
      rw [List.any_cons,Bool.or_eq_true] at h;exact ih (i + 1) (by omega) (h.resolve_left hx)
  exact decide_eq_true (this l 0 (by omega) hq)
theorem Contains_points (p : S56 → Bool) (g : Nat) (lb : Array Value) (eg : ∀ args w,(callFunc g args).run Try.prog w = .ok (.enter g args) w) (A : Option Addr) (c : Nat) (l : List S56) (w : World)
 (hp : PredB g lb (fun x => .agg (c56 x)) p w) (hr : Kd.C k56 w A l.length l) :
 Calls Try.prog 62 #[.slice A l.length c,.func (.func g) #[] lb] w fun e w' => e = .returned (.bool (l.any p)) ∧ Below w.heap.size w w' := by
 have HC := Zd.mk (Qe p g lb eg A c l w hp hr);clear hp hr
 go_enter Try.func62,Try.ntmps62
 go_wp2_with (go_at_call 73;refine HC.out.mono ?_;rintro e w' ⟨rfl,hb'⟩)
 go_ret;exact ⟨by rw [← any_idx];rfl,hb'⟩
set_option maxRecDepth 100000 in
theorem Y0 (l : List S56) (at_ : Int) (A : Option Addr) (c B : Nat) (w : World) (hb : w.cell? ⟨B,0,none⟩ = some (.slice A l.length c)) (hr : Kd.C k56 w A l.length l) :
 Calls Try.prog 61 #[.int .i64 at_,.pointer (some ⟨B,0,none⟩)] w fun e w' => e = .returned (.bool (isT l at_)) ∧ Below w.heap.size w w' := by
 have lB : B < w.heap.size := World.block_lt_of_cell? _ _ hb
 have HC := Zd.mk (Contains_points (fun p => p.f0 == at_) 63 #[.pointer (some ⟨w.heap.size,0,none⟩)] enters63 A c l (w.alloc (.cells #[.int .i64 at_] 3))
  (fun W x hW => cut11_calls x w.heap.size at_ W ((hW.cell (p := ⟨w.heap.size,0,none⟩) (by simp)).trans (by simp))) (Kd.Z8 hr _))
 have hb' : (w.alloc (.cells #[.int .i64 at_] 3)).cell? ⟨B,0,none⟩ = some (.slice A l.length c) := (World.cell?_alloc_lt _ _ _ lB).trans hb;clear hr hb
 go_enter Try.func61,Try.ntmps61
 go_wp2_with (go_at_call 62;refine HC.out.mono ?_;rintro e w' ⟨rfl,hb2⟩)
 go_ret;exact ⟨rfl,((Below.refl _ w).alloc (Nat.le_refl _) _).trans (hb2.mono (by simp))⟩
end Go.Proofs.Ytomlfbmfdoallaa.PA

namespace Go.Proofs.Ytomlfbmfdoallaa.PA
open Go.RowKit Go.Shelf Go.Proofs.YtomlfbmfdoallaaW.PrintWords Go.Proofs.YtomlfbmfdoallaaW.PrintLast Go.Proofs.YtomlfbmfdoallaaW.PrintMore
set_option linter.unusedVariables false
set_option linter.unusedSimpArgs false
def PredD {α : Type} (g : Nat) (lb : Array Value) (enc : α → Value) (p : α → Bool) (D : α → Prop) (w : World) : Prop :=
 ∀ (W : World) (x : α),D x → Below w.heap.size w W → Calls Try.prog g (#[enc x] ++ lb) W fun e w' => e = .returned (.bool (p x)) ∧ Below W.heap.size W w'
def bs (p : Int → Bool) (lo hi : Int) : Int :=
 if lo < hi then (if p (lo + (hi - lo + 1) / 2) = true then bs p (lo + (hi - lo + 1) / 2) hi else bs p lo (lo + (hi - lo + 1) / 2 - 1)) else lo
termination_by (hi - lo).toNat
decreasing_by all_goals omega
set_option maxRecDepth 100000 in
set_option maxHeartbeats 2000000 in
theorem greatest_calls (p : Int → Bool) (g : Nat) (lb : Array Value) (eg : ∀ args w,(callFunc g args).run Try.prog w = .ok (.enter g args) w) (lo hi : Int) (w : World) (h0 : 0 ≤ lo) (h1 : lo ≤ hi) (h2 : hi ≤ 1000000000)
 (hp : PredD g lb (fun x => .int .i64 x) p (fun x => 0 ≤ x ∧ x ≤ 1000000000) w) :
 Calls Try.prog 71 #[.int .i64 lo,.int .i64 hi,.func (.func g) #[] lb] w fun e w' => e = .returned (.int .i64 (bs p lo hi)) ∧ Below w.heap.size w w' := by
 have HP := Zd.mk hp;clear hp
 go_enter Try.func71,Try.ntmps71
 go_wp2
 go_loopg [0,1] (hi - lo).toNat (fun gg v0 v1 wr => ∃ a b : Int,0 ≤ a ∧ a ≤ b ∧ b ≤ 1000000000 ∧ (b - a).toNat ≤ gg ∧ v0 = .int .i64 a ∧ v1 = .int .i64 b ∧ Zd (Below w.heap.size w wr) ∧ Zd (bs p lo hi = bs p a b))
 case atStart => exact ⟨lo,hi,h0,h1,h2,Nat.le_refl _,rfl,rfl,⟨Below.refl _ w⟩,⟨rfl⟩⟩
 case round =>
  obtain ⟨a,b,ha,hab,hb,hg,rfl,rfl,BW,AI⟩ := hrel
  by_cases hlt : a < b
  · have m0 : a + 1 ≤ a + (b - a + 1) / 2 := by omega
    have m1 : a + (b - a + 1) / 2 ≤ b := by omega
    have hcall := HP.out wr (a + (b - a + 1) / 2) ⟨by omega,by omega⟩ BW.out
    cases hq : p (a + (b - a + 1) / 2) with
    | true =>
     rw [hq] at hcall;have HQ := Zd.mk hq;clear hq
     go_wp2_with (go_at_fn g;refine hcall.mono ?_;rintro e w' ⟨rfl,hb'⟩)
     go_roundg (b - (a + (b - a + 1) / 2)).toNat
     case measure => omega
     case rel => exact ⟨a + (b - a + 1) / 2,b,by omega,m1,hb,Nat.le_refl _,rfl,rfl,⟨BW.out.trans (hb'.mono BW.out.size)⟩,⟨by rw [AI.out,bs,if_pos hlt,if_pos HQ.out]⟩⟩
    | false =>
     rw [hq] at hcall;have HQ := Zd.mk hq;clear hq
     go_wp2_with (go_at_fn g;refine hcall.mono ?_;rintro e w' ⟨rfl,hb'⟩)
     go_roundg (a + (b - a + 1) / 2 - 1 - a).toNat
     case measure => omega
     case rel => exact ⟨a,a + (b - a + 1) / 2 - 1,ha,by omega,by omega,Nat.le_refl _,rfl,rfl,⟨BW.out.trans (hb'.mono BW.out.size)⟩,⟨by rw [AI.out,bs,if_pos hlt,if_neg (by rw [HQ.out];simp)]⟩⟩
  · go_wp2
    go_ret;exact ⟨Q3 (by rw [AI.out,bs,if_neg (by omega)]),BW.out⟩
theorem enters72 : ∀ args w,(callFunc 72 args).run Try.prog w = .ok (.enter 72 args) w := Go.Proofs.enters_of Try.func72 (by kernel_rfl) rfl
set_option maxRecDepth 100000 in
set_option maxHeartbeats 2000000 in
theorem tick1_calls (A : Option Addr) (c : Nat) (l : List S27) (start at_ x : Int) (b1 b2 b3 : Nat) (W : World) (hok : mapOkB l = true) (hs0 : 0 ≤ start) (hs1 : start ≤ 1000000000) (hx0 : 0 ≤ x) (hx1 : x ≤ 1000000000) (hr : Kd.C k27 W A l.length l) (hc : l.length ≤ c)
 (k1 : W.cell? ⟨b1,0,none⟩ = some (.slice A l.length c)) (k2 : W.cell? ⟨b2,0,none⟩ = some (.int .i64 start)) (k3 : W.cell? ⟨b3,0,none⟩ = some (.int .i64 at_)) :
 Calls Try.prog 72 #[.int .i64 x,.pointer (some ⟨b1,0,none⟩),.pointer (some ⟨b2,0,none⟩),.pointer (some ⟨b3,0,none⟩)] W fun e w' => e = .returned (.bool (decide (fr l start x ≤ at_))) ∧ Below W.heap.size W w' := by
 have l1 : b1 < W.heap.size := World.block_lt_of_cell? _ _ k1;have l2 : b2 < W.heap.size := World.block_lt_of_cell? _ _ k2;have l3 : b3 < W.heap.size := World.block_lt_of_cell? _ _ k3;have HR := Zd.mk hr;clear hr
 have hf : Xs.f l start x = some (fr l start x) := by unfold Xs.f;rw [if_pos ⟨hok,hs0,hs1,hx0,hx1⟩]
 generalize hv : fr l start x = v at hf ⊢;have HC := Zd.mk hf;clear hf hv hok
 go_enter Try.func72,Try.ntmps72
 go_wp2_with (fail)
 go_region_held3 (fun w' => w'.cell? ⟨b1,0,none⟩ = some (.slice A l.length c) ∧ w'.cell? ⟨b2,0,none⟩ = some (.int .i64 start) ∧ w'.cell? ⟨b3,0,none⟩ = some (.int .i64 at_)) (simp [go_sem, *])
  (first | (go_at_call 42;refine (Xs.calls _ _ l start x v _ (Kd.ZI HR.out) hc HC.out).mono ?_;rintro e w' ⟨rfl,hb2⟩;have hc2 : ∀ b o,b < W.heap.size → w'.cell? ⟨b,o,none⟩ = W.cell? ⟨b,o,none⟩ := fun b o h => hb2.cell (p := ⟨b,o,none⟩) h))
 go_wp2
 go_ret;exact ⟨rfl,(Qh (Below.refl _ _)).trans hb2⟩
def X4.f (l0 : List S27) (a1 : Int) (a2 : Int) : Option Int :=
 if mapOkB l0 = true ∧ 0 ≤ a1 ∧ a1 ≤ 1000000000 then some (bs (fun n => decide (fr l0 a1 n ≤ a2)) 0 1000000000) else none
set_option maxRecDepth 100000 in
set_option maxHeartbeats 2000000 in
theorem X4.calls (A0 : Option Addr) (c0 : Nat) (l0 : List (S27)) (a1 : Int) (a2 : Int) (r : Int) (w : World) (hr0 : Kd.C k27 w A0 l0.length l0) (hc0 : l0.length ≤ c0) (h : X4.f l0 a1 a2 = some r) :
 Calls Try.prog 54 #[.slice A0 l0.length c0,.int .i64 a1,.int .i64 a2] w fun e w' => e = .returned (.int .i64 r) ∧ Below w.heap.size w w' := by
 unfold X4.f at h;split at h
 · rename_i hg
   obtain ⟨hok,hs0,hs1⟩ := hg;obtain rfl := Option.some.inj h;clear h
   have HG := fun W (hW : Below w.heap.size w W) b1 b2 b3 k1 k2 k3 x hx => tick1_calls A0 c0 l0 a1 a2 x b1 b2 b3 W hok hs0 hs1 (And.left hx) (And.right hx) (Kd.ZK hr0 hW) hc0 k1 k2 k3
   have HG' := Lib.hid HG;clear HG hok hr0;generalize hp : (fun n => decide (fr l0 a1 n ≤ a2)) = p
   have hmf : ∀ (fn : Fn) (first cap : Array Value) (w : World),(Instr.makeFunc fn first cap).run Try.prog w = .ok (.func fn first cap) w := fun _ _ _ _ => rfl
   go_enter Try.func54,Try.ntmps54
   go_wp2_with (fail)
   have c1 : ∀ W,Below (w.heap.size + 1 + 1 + 1) (((w.alloc (.cells #[.slice A0 l0.length c0] 22)).alloc (.cells #[.int .i64 a1] 3)).alloc (.cells #[.int .i64 a2] 3)) W → W.cell? ⟨w.heap.size,0,none⟩ = some (.slice A0 l0.length c0) ∧ W.cell? ⟨w.heap.size + 1,0,none⟩ = some (.int .i64 a1) ∧ W.cell? ⟨w.heap.size + 1 + 1,0,none⟩ = some (.int .i64 a2) := by
    intro W hW
    have e1 := (hW.cell (p := ⟨w.heap.size,0,none⟩) (by show w.heap.size < _;omega))
    have e2 := (hW.cell (p := ⟨w.heap.size + 1,0,none⟩) (by show w.heap.size + 1 < _;omega))
    have e3 := (hW.cell (p := ⟨w.heap.size + 1 + 1,0,none⟩) (by show w.heap.size + 1 + 1 < _;omega))
    rw [e1,e2,e3]
    refine ⟨?_,?_,?_⟩ <;> go_simp
   refine (greatest_calls p 72 #[.pointer (some ⟨w.heap.size,0,none⟩),.pointer (some ⟨w.heap.size + 1,0,none⟩),.pointer (some ⟨w.heap.size + 1 + 1,0,none⟩)] enters72 0 1000000000 _ (by omega) (by omega) (by omega) ?_).mono ?_
   · intro W x hx hW
     have hW' : Below (w.heap.size + 1 + 1 + 1) (((w.alloc (.cells #[.slice A0 l0.length c0] 22)).alloc (.cells #[.int .i64 a1] 3)).alloc (.cells #[.int .i64 a2] 3)) W := hW.mono (by simp);obtain ⟨k1,k2,k3⟩ := c1 W hW';have := HG'.out W (((((Below.refl _ w).alloc (Nat.le_refl _) _).alloc (by simp) _).alloc (by simp;omega) _).trans (hW'.mono (by omega))) _ _ _ k1 k2 k3 x hx;rw [← hp];exact this
   · have HP := Zd.mk hp
     clear hp;rintro e w1 ⟨rfl,hb⟩
     go_wp2
     go_ret;exact ⟨rfl,((((Below.refl _ w).alloc (Nat.le_refl _) _).alloc (by simp) _).alloc (by simp;omega) _).trans (hb.mono (by simp;omega))⟩
 · cases h
def Xr.f (k : Nat) (l0 : List S27) (a1 : Int) : Option (Int × Int) :=
 (ZO.f k l0 [a1]).bind fun e => if e = 0 then (if mapOkB l0 = true ∧ 0 ≤ a1 ∧ a1 ≤ 1000000000 then some (per l0 a1,0) else none) else some (0,e)
end Go.Proofs.Ytomlfbmfdoallaa.PA

namespace Go.Proofs.Ytomlfbmfdoallaa.PA
open Go.RowKit Go.Proofs.YtomlfbmfdoallaaW.PrintWords Go.Proofs.YtomlfbmfdoallaaW.PrintLast Go.Proofs.YtomlfbmfdoallaaW.PrintMore
set_option linter.unusedVariables false
set_option linter.unusedSimpArgs false
theorem method_evenp : ∀ p w,(method 244 104 (.agg #[.int .i64 p]) "continuo/tempo.period").run Try.prog w = .ok (117,.agg #[.int .i64 p]) w := fun _ _ => by kernel_rfl
theorem method_changingp : ∀ p q l w,(method 244 106 (.agg #[.int .i64 p,.int .i64 q,.int .i64 l]) "continuo/tempo.period").run Try.prog w = .ok (119,.agg #[.int .i64 p,.int .i64 q,.int .i64 l]) w := fun _ _ _ _ => by kernel_rfl
theorem evenp_calls (p n : Int) (w : World) : Calls Try.prog 117 #[.agg #[.int .i64 p],.int .i64 n] w fun e w' => e = .returned (.int .i64 p) ∧ Below w.heap.size w w' := XM.calls p n p w rfl
theorem Kd_one (W : World) (b : Nat) (x : Int) (h : W.cell? ⟨b,0,none⟩ = some (.int .i64 x)) : Kd.C (Kd.int .i64) W (some ⟨b,0,none⟩) 1 [x] := by
 refine ⟨rfl,by omega,fun _ => ⟨_,rfl,fun j p hj => ?_⟩⟩
 match j with
 | 0 =>
  simp at hj;subst hj;refine ⟨[.int .i64 x],rfl,rfl,fun i u hi => ?_⟩
  match i with
  | 0 =>
   simp at hi;subst hi
   simpa [Addr.add] using h
  | i + 1 => simp at hi
 | j + 1 => simp at hj
theorem Xr.mono : ∀ a0 a1 k,LeO (Xr.f k a0 a1) (Xr.f (k + 1) a0 a1) := by
 intro a0 a1 k;unfold Xr.f;exact LeO.bind (ZO.mono _ _ _) (fun _ => LeO.refl _)
set_option maxRecDepth 100000 in
set_option maxHeartbeats 2000000 in
theorem Xr.calls (k : Nat) (A0 : Option Addr) (c0 : Nat) (l0 : List (S27)) (a1 : Int) (r1 r2 : Int) (w : World) (hr0 : Kd.C k27 w A0 l0.length l0) (hc0 : l0.length ≤ c0) (h : Xr.f k l0 a1 = some (r1,r2)) :
 Calls Try.prog 12 #[.slice A0 l0.length c0,.int .i64 a1] w fun e w' => e = .returned (.tuple #[.int .i64 r1,.int .i64 r2]) ∧ Below w.heap.size w w' := by
 unfold Xr.f at h;obtain ⟨e,he,h'⟩ := Option.bind_eq_some_iff.mp h;clear h;have k0 := Blk.new w #[.int .i64 a1] 3;have hb0 := (Below.refl _ w).alloc (Nat.le_refl _) (.cells #[.int .i64 a1] 3);have HA := Lib.hid (ZO.calls k A0 c0 l0 (some ⟨w.heap.size,0,none⟩) 1 [a1] e (w.alloc (.cells #[.int .i64 a1] 3)) (Kd.ZK hr0 hb0) hc0 (Kd_one _ _ _ (k0.cell 0 rfl)) (by simp) he);clear he k0
 by_cases h0 : e = 0
 · subst h0
   rw [if_pos rfl] at h'
   have hg : mapOkB l0 = true ∧ 0 ≤ a1 ∧ a1 ≤ 1000000000 := by
    apply Classical.byContradiction;intro hn;rw [if_neg hn] at h'
    cases h'
   rw [if_pos hg] at h';obtain ⟨hok,t0,t1⟩ := hg;rw [Ye] at hok;simp only [Option.some.injEq,Prod.mk.injEq] at h';obtain ⟨rfl,rfl⟩ := h';obtain ⟨x,p1,p2,p3,p4,p5,p6,p7,p8⟩ := QF a1 t1 l0 0 hok.2.2.2 (by intro e;subst e;have := hok.1;simp at this) (fun t e => by rw [hok.2.2.1 t e];exact t0)
   have HO := fun w1 (hb : Below w.heap.size w w1) => Y9 A0 c0 l0 0 a1 w1 hok (by omega) (by omega) (Kd.ZK hr0 hb)
   rw [p1] at HO;have HO' := Lib.hid HO;clear HO hr0 p1 p2 hok;rw [← p3];clear p3;obtain ⟨c,tk,fm,fn⟩ := x;dsimp only [prtCells] at HO' p4 p5 p6 p7 p8 ⊢
   cases c with
   | even p =>
    dsimp only [Crv.val] at HO';have hme := method_evenp p
    have HC := fun w => Lib.hid (evenp_calls p (a1 - tk) w)
    go_enter Try.func12,Try.ntmps12
    go_wp2_with (fail)
    refine HA.out.mono ?_;rintro e w1 ⟨rfl,hb1⟩;replace hb0 := hb0.trans (hb1.mono hb0.size);clear hb1
    go_wp2_with (fail)
    refine (HO'.out _ hb0).mono ?_;rintro e w2 ⟨rfl,hb1⟩;replace hb0 := hb0.trans (hb1.mono hb0.size);clear hb1
    go_wp2_with (fail)
    refine (HC _).out.mono ?_;rintro e w3 ⟨rfl,hb1⟩;have hb2 : Below w.heap.size w w3 := (hb0.alloc hb0.size _).trans (hb1.mono (by have := hb0.size;simp;omega));clear hb1
    go_wp2_with (fail)
    go_ret2
    exact ⟨rfl,hb2⟩
   | changing p q L =>
    dsimp only [Crv.val] at HO';obtain ⟨g1,g2,g3,g4,g5,g6,g7,g8⟩ := p4;have hme := method_changingp p q L
    have HC := fun w => Lib.hid (X6.calls p q L (a1 - tk) _ w (changing_period_eq p q L (a1 - tk) g7 g8 g5 g6 g1 g2 g3 g4))
    go_enter Try.func12,Try.ntmps12
    go_wp2_with (fail)
    refine HA.out.mono ?_;rintro e w1 ⟨rfl,hb1⟩;replace hb0 := hb0.trans (hb1.mono hb0.size);clear hb1
    go_wp2_with (fail)
    refine (HO'.out _ hb0).mono ?_;rintro e w2 ⟨rfl,hb1⟩;replace hb0 := hb0.trans (hb1.mono hb0.size);clear hb1
    go_wp2_with (fail)
    refine (HC _).out.mono ?_;rintro e w3 ⟨rfl,hb1⟩;have hb2 : Below w.heap.size w w3 := (hb0.alloc hb0.size _).trans (hb1.mono (by have := hb0.size;simp;omega));clear hb1
    go_wp2_with (fail)
    go_ret2
    exact ⟨rfl,hb2⟩
 · rw [if_neg h0] at h'
   simp only [Option.some.injEq,Prod.mk.injEq] at h';obtain ⟨rfl,rfl⟩ := h'
   have h1 : (e != 0) = true := by simpa using h0
   clear hr0
   go_enter Try.func12,Try.ntmps12
   go_wp2_with (fail)
   refine HA.out.mono ?_;rintro e w1 ⟨rfl,hb1⟩;replace hb0 := hb0.trans (hb1.mono hb0.size);clear hb1
   go_wp2_with (fail)
   go_ret2
   exact ⟨rfl,hb0⟩
end Go.Proofs.Ytomlfbmfdoallaa.PA
