/- TempoCurves, part 6: what the row is built on. -/
import Derived.Test.YtomlfbmfdoallaaCTempoCurves5
import Derived.Deep.CutBlock
import Derived.Deep.DeepCutAuto
import Derived.Deep.RegionHeld3
import Derived.Deep.QuietTactic
import Derived.BigQuiet
import Derived.Laws.AppendOwn
import Derived.OwnWalk
namespace Go.Proofs.Ytomlfbmfdoallaa.PA
open Go.RowKit Go.Proofs.YtomlfbmfdoallaaW.PrintWords Go.Proofs.YtomlfbmfdoallaaW.PrintLast Go.Proofs.YtomlfbmfdoallaaW.PrintMore
attribute [local go_sem] Xf Xe Xj Xk ZV ZU Xd Xc
set_option linter.unusedVariables false
set_option linter.unusedSimpArgs false
mutual
def Zi.j0 : Nat → List (S27) → Bool → Option (Bool)
 | 0,_,_ => none
 | k + 1,x0,x19 => if x19 = true then (some false) else (Zi.l0 k x0 0)
def Zi.l0 : Nat → List (S27) → Int → Option (Bool)
 | 0,_,_ => none
 | k + 1,x0,x3 => if x3 < (x0.length : Int) then (if 0 ≤ x3 then (if ((Zf x0 x3).f0) < 0 then (Zi.j2 k x0 x3 true ((Zf x0 x3).f0) ((Zf x0 x3).f1) ((Zf x0 x3).f2)) else (if ((Zf x0 x3).f0) > 1000000000 then (Zi.j2 k x0 x3 true ((Zf x0 x3).f0) ((Zf x0 x3).f1) ((Zf x0 x3).f2)) else (if x3 > 0 then (if 0 ≤ (wrap64 (x3 - 1)) then (if (wrap64 (x3 - 1)) < (x0.length : Int) then (if ((Zf x0 x3).f0) ≤ ((Zf x0 (wrap64 (x3 - 1))).f0) then (Zi.j2 k x0 x3 true ((Zf x0 x3).f0) ((Zf x0 x3).f1) ((Zf x0 x3).f2)) else (if ((Zf x0 x3).f1) < 1 then (Zi.j2 k x0 x3 true ((Zf x0 x3).f0) ((Zf x0 x3).f1) ((Zf x0 x3).f2)) else (if ((Zf x0 x3).f1) > 67108864 then (Zi.j2 k x0 x3 true ((Zf x0 x3).f0) ((Zf x0 x3).f1) ((Zf x0 x3).f2)) else (if ((Zf x0 x3).f2) < 0 then (Zi.j2 k x0 x3 true ((Zf x0 x3).f0) ((Zf x0 x3).f1) ((Zf x0 x3).f2)) else (Zi.j2 k x0 x3 (decide (((Zf x0 x3).f2) > 1)) ((Zf x0 x3).f0) ((Zf x0 x3).f1) ((Zf x0 x3).f2)))))) else (none)) else (none)) else (if ((Zf x0 x3).f1) < 1 then (Zi.j2 k x0 x3 true ((Zf x0 x3).f0) ((Zf x0 x3).f1) ((Zf x0 x3).f2)) else (if ((Zf x0 x3).f1) > 67108864 then (Zi.j2 k x0 x3 true ((Zf x0 x3).f0) ((Zf x0 x3).f1) ((Zf x0 x3).f2)) else (if ((Zf x0 x3).f2) < 0 then (Zi.j2 k x0 x3 true ((Zf x0 x3).f0) ((Zf x0 x3).f1) ((Zf x0 x3).f2)) else (Zi.j2 k x0 x3 (decide (((Zf x0 x3).f2) > 1)) ((Zf x0 x3).f0) ((Zf x0 x3).f1) ((Zf x0 x3).f2)))))))) else (none)) else (some true)
def Zi.j2 : Nat → List (S27) → Int → Bool → Int → Int → Int → Option (Bool)
 | 0,_,_,_,_,_,_ => none
 | k + 1,x0,x3,x72,x140000,x140001,x140002 => if x72 = true then (some false) else (if x140002 = 1 then (if x3 = (wrap64 ((x0.length : Int) - 1)) then (some false) else (if 0 ≤ (wrap64 (x3 + 1)) then (if (wrap64 (x3 + 1)) < (x0.length : Int) then (if (wrap64 (((Zf x0 (wrap64 (x3 + 1))).f0) - x140000)) > 10000 then (some false) else (Zi.l0 k x0 (wrap64 (x3 + 1)))) else (none)) else (none))) else (Zi.l0 k x0 (wrap64 (x3 + 1))))
end
def Zi.f (k : Nat) (l0 : List (S27)) : Option (Bool) := if (l0.length : Int) < 1 then (Zi.j0 k l0 true) else (if (l0.length : Int) > 50 then (Zi.j0 k l0 true) else (if 0 < (l0.length : Int) then (Zi.j0 k l0 (((Zf l0 0).f0) != 0)) else (none)))
theorem Zi.Xm : ∀ k,(∀ y0 y1,LeO (Zi.j0 k y0 y1) (Zi.j0 (k + 1) y0 y1)) ∧ (∀ y0 y1,LeO (Zi.l0 k y0 y1) (Zi.l0 (k + 1) y0 y1)) ∧ (∀ y0 y1 y2 y3 y4 y5,LeO (Zi.j2 k y0 y1 y2 y3 y4 y5) (Zi.j2 (k + 1) y0 y1 y2 y3 y4 y5))
 | 0 => ⟨fun _ _ r h => by simp [Zi.j0] at h,fun _ _ r h => by simp [Zi.l0] at h,fun _ _ _ _ _ _ r h => by simp [Zi.j2] at h⟩
 | k + 1 => by
  obtain ⟨ih0,ih1,ih2⟩ := Zi.Xm k;refine ⟨?_,?_,?_⟩
  · intro y0 y1
    unfold Zi.j0
    repeat' first
    | (with_reducible exact ih0 _ _)
    | (with_reducible exact ih1 _ _)
    | (with_reducible exact ih2 _ _ _ _ _ _)
    | (with_reducible exact LeO.refl _)
    | (with_reducible exact LeO.none _)
    | (with_reducible refine LeO.ite ?_ ?_)
    | (with_reducible refine LeO.bind ?_ (fun _ => ?_))
    | exact ih0 _ _
    | exact ih1 _ _
    | exact ih2 _ _ _ _ _ _
    | exact LeO.none _
    | refine LeO.ite ?_ ?_
    | refine LeO.bind ?_ (fun _ => ?_)
  · intro y0 y1
    unfold Zi.l0
    repeat' first
    | (with_reducible exact ih0 _ _)
    | (with_reducible exact ih1 _ _)
    | (with_reducible exact ih2 _ _ _ _ _ _)
    | (with_reducible exact LeO.refl _)
    | (with_reducible exact LeO.none _)
    | (with_reducible refine LeO.ite ?_ ?_)
    | (with_reducible refine LeO.bind ?_ (fun _ => ?_))
    | exact ih0 _ _
    | exact ih1 _ _
    | exact ih2 _ _ _ _ _ _
    | exact LeO.none _
    | refine LeO.ite ?_ ?_
    | refine LeO.bind ?_ (fun _ => ?_)
  · intro y0 y1 y2 y3 y4 y5
    unfold Zi.j2
    repeat' first
    | (with_reducible exact ih0 _ _)
    | (with_reducible exact ih1 _ _)
    | (with_reducible exact ih2 _ _ _ _ _ _)
    | (with_reducible exact LeO.refl _)
    | (with_reducible exact LeO.none _)
    | (with_reducible refine LeO.ite ?_ ?_)
    | (with_reducible refine LeO.bind ?_ (fun _ => ?_))
    | exact ih0 _ _
    | exact ih1 _ _
    | exact ih2 _ _ _ _ _ _
    | exact LeO.none _
    | refine LeO.ite ?_ ?_
    | refine LeO.bind ?_ (fun _ => ?_)
theorem Zi.mono : ∀ a0 k,LeO (Zi.f k a0) (Zi.f (k + 1) a0) := by
 intro a0 k;obtain ⟨ih0,ih1,ih2⟩ := Zi.Xm k;unfold Zi.f
 repeat' first
  | (with_reducible exact ih0 _ _)
  | (with_reducible exact ih1 _ _)
  | (with_reducible exact ih2 _ _ _ _ _ _)
  | (with_reducible exact LeO.refl _)
  | (with_reducible exact LeO.none _)
  | (with_reducible refine LeO.ite ?_ ?_)
  | (with_reducible refine LeO.bind ?_ (fun _ => ?_))
  | exact ih0 _ _
  | exact ih1 _ _
  | exact ih2 _ _ _ _ _ _
  | exact LeO.none _
  | refine LeO.ite ?_ ?_
  | refine LeO.bind ?_ (fun _ => ?_)
set_option maxHeartbeats 8000000 in
set_option maxRecDepth 100000 in
theorem Zi.calls (k : Nat) (A0 : Option Addr) (c0 : Nat) (l0 : List (S27)) (r : Bool) (w : World) (hr0 : Kd.C k27 w A0 l0.length l0) (hc0 : l0.length ≤ c0) (h : Zi.f k l0 = some r) :
 Calls Try.prog 11 #[.slice A0 l0.length c0] w fun e w' => e = .returned (.bool r) ∧ Below w.heap.size w w' := by
 have hu27 := Try.underlying27;have HR0 := Zd.mk hr0;have HC0 := Zd.mk hc0;clear hr0 hc0;have HB := Zd.mk (Below.refl w.heap.size w);have H : (if (l0.length : Int) < 1 then (Zi.j0 k l0 true) else (if (l0.length : Int) > 50 then (Zi.j0 k l0 true) else (if 0 < (l0.length : Int) then (Zi.j0 k l0 (((Zf l0 0).f0) != 0)) else (none)))) = some r := h;clear h;have HC2 := Zd.mk H;clear H
 go_enter Try.func11,Try.ntmps11
 go_upto_region 1 with (fail)
 repeat (go_quiet (fail);go_upto_region 1 with (fail))
 go_cut [19] (fun v19 wc => ∃ (kq : Nat) (x19_1 : Bool),v19 = .bool x19_1 ∧ Zd (Zi.j0 kq l0 x19_1 = some r) ∧ Zd (kq ≤ k) ∧ Zd (Below w.heap.size w wc))
 case first =>
  have H := HC2.out;clear HC2
  by_cases c3 : (l0.length : Int) < 1
  · rw [if_pos c3] at H
    have c3b0 : decide ((l0.length : Int) < 1) = true := decide_eq_true c3;have c3b1 : decide (l0.length < 1) = true := decide_eq_true (by omega);clear c3
    (first | rw [c3b0] | (simp only [i64_w,i32_w];rw [c3b0]) | skip)
    have H' := Zd.mk H;clear H
    go_wp2
    repeat (go_quiet (fail);try go_wp2)
    go_meet
    case rel => exact ⟨_,(true),(by first | rfl | (simp;done) | (simp [*];done)),H',⟨by first | omega | exact Nat.le_refl _⟩,⟨by repeat (first | (with_reducible first | exact HB.out | apply Zc | apply Za | apply Zb) | exact HB.out)⟩⟩
  · rw [if_neg c3] at H
    have c3b0 : decide ((l0.length : Int) < 1) = false := decide_eq_false c3;have c3b1 : decide (l0.length < 1) = false := decide_eq_false (by omega);clear c3
    (first | rw [c3b0] | (simp only [i64_w,i32_w];rw [c3b0]) | skip)
    by_cases c4 : (l0.length : Int) > 50
    · rw [if_pos c4] at H
      have c4b0 : decide (50 < (l0.length : Int)) = true := decide_eq_true c4;have c4b1 : decide (50 < l0.length) = true := decide_eq_true (by omega);clear c4;have H' := Zd.mk H;clear H
      go_wp2
      repeat (go_quiet (fail);try go_wp2)
      go_meet
      case rel => exact ⟨_,(true),(by first | rfl | (simp;done) | (simp [*];done)),H',⟨by first | omega | exact Nat.le_refl _⟩,⟨by repeat (first | (with_reducible first | exact HB.out | apply Zc | apply Za | apply Zb) | exact HB.out)⟩⟩
    · rw [if_neg c4] at H
      have c4b0 : decide (50 < (l0.length : Int)) = false := decide_eq_false c4;have c4b1 : decide (50 < l0.length) = false := decide_eq_false (by omega);clear c4
      by_cases c5 : 0 < (l0.length : Int)
      · rw [if_pos c5] at H
        have c5b0 : decide (0 < (l0.length : Int)) = true := decide_eq_true c5;have c5b1 : decide (0 < l0.length) = true := decide_eq_true (by omega);clear c5;have H' := Zd.mk H;clear H
        have p137 : 0 ≤ (0 : Int) := (by omega)
        have q137 : 0 < (l0.length : Int) := of_decide_eq_true (by first | (with_reducible assumption) | assumption);obtain ⟨ad137,e137,hx137_0,hx137_1,hx137_2⟩ := Xo HR0.out 0 p137 q137
        cases e137
        have qi137 : (0 < l0.length) = True := eq_true (by omega)
        (try rw [show ((0 : Int)).toNat = 0 from rfl] at hx137_0)
        (try rw [show 0 * 3 = 0 from rfl] at hx137_0)
        (try rw [Addr.add_zero'] at hx137_0)
        (try rw [show ((0 : Int)).toNat = 0 from rfl] at hx137_1)
        (try rw [show 0 * 3 = 0 from rfl] at hx137_1)
        (try rw [Addr.add_zero'] at hx137_1)
        (try rw [show ((0 : Int)).toNat = 0 from rfl] at hx137_2)
        (try rw [show 0 * 3 = 0 from rfl] at hx137_2)
        (try rw [Addr.add_zero'] at hx137_2)
        replace hx137_0 := (HB.out.cell (World.block_lt_of_cell? w _ hx137_0)).trans hx137_0;replace hx137_1 := (HB.out.cell (World.block_lt_of_cell? w _ hx137_1)).trans hx137_1;replace hx137_2 := (HB.out.cell (World.block_lt_of_cell? w _ hx137_2)).trans hx137_2;replace p137 := eq_true p137;replace q137 := eq_true q137
        go_wp2
        repeat (go_quiet (fail);try go_wp2)
        go_meet
        case rel => exact ⟨_,((((Zf l0 0).f0) != 0)),(by first | rfl | (simp;done) | (simp [*];done)),H',⟨by first | omega | exact Nat.le_refl _⟩,⟨by repeat (first | (with_reducible first | exact HB.out | apply Zc | apply Za | apply Zb) | exact HB.out)⟩⟩
      · rw [if_neg c5] at H
        exact absurd H (by simp)
 case rest =>
  clear HC2
  (try clear c1); (try clear p1); (try clear q1); (try clear hx1); (try clear qi1); (try clear p2); (try clear c3); (try clear c3b0); (try clear c3b1); (try clear c4); (try clear c4b0); (try clear c4b1); (try clear c5); (try clear c5b0); (try clear c5b1); (try clear hx137_0); (try clear hx137_1); (try clear hx137_2); (try clear p137); (try clear q137)
  obtain ⟨kq,x19_1,rfl,HA,HJ1,HB⟩ := hcut
  cases kq with
  | zero => exact absurd HA.out (by simp [Zi.j0])
  | succ kj1 =>
   have H := HA.out;clear HA;simp only [Zi.j0] at H
   by_cases c6 : x19_1 = true
   · subst c6
     have H1 : (some false) = some r := by rw [if_pos rfl] at H;exact H
     clear H;have H := H1;clear H1;obtain rfl := Option.some.inj H
     go_wp2
     repeat (go_quiet (fail);try go_wp2)
     go_ret;exact ⟨by first | rfl | (simp [Zt,Zv] <;> rfl) | (simp [*,Zt,Zv] <;> rfl),by repeat (first | (with_reducible first | exact HB.out | apply Zc | apply Za | apply Zb) | exact HB.out)⟩
   · replace c6 := Bool.eq_false_iff.mpr c6
     subst c6
     have H1 : (Zi.l0 kj1 l0 0) = some r := by rw [if_neg (show ¬ (false = true) by decide)] at H;exact H
     clear H;have H := H1;clear H1;have H' := Zd.mk H;clear H
     go_wp2
     repeat (go_quiet (fail);try go_wp2)
     go_loopg [3] kj1 (fun kq v3 w' => ∃ (x3_2 : Int),v3 = .int .i64 x3_2 ∧ Zd (Zi.l0 kq l0 x3_2 = some r) ∧ Zd (kq ≤ kj1) ∧ Zd (Below w.heap.size w w'))
     case atStart => exact ⟨(0),(by first | rfl | (simp;done) | (simp [*];done)),H',⟨Nat.le_refl _⟩,⟨by repeat (first | (with_reducible first | exact HB.out | apply Zc | apply Za | apply Zb) | exact HB.out)⟩⟩
     case round =>
      clear H'
      (try clear c1); (try clear p1); (try clear q1); (try clear hx1); (try clear qi1); (try clear p2); (try clear c3); (try clear c3b0); (try clear c3b1); (try clear c4); (try clear c4b0); (try clear c4b1); (try clear c5); (try clear c5b0); (try clear c5b1); (try clear c6); (try clear hx137_0); (try clear hx137_1); (try clear hx137_2); (try clear p1); (try clear p137); (try clear p2); (try clear q1); (try clear q137)
      obtain ⟨x3_2,rfl,HA,HK2,HB⟩ := hrel
      cases gk with
      | zero => exact absurd HA.out (by simp [Zi.l0])
      | succ k2 =>
       have H := HA.out;clear HA;simp only [Zi.l0] at H
       by_cases c7 : x3_2 < (l0.length : Int)
       · rw [if_pos c7] at H
         have c7b0 : decide (x3_2 < (l0.length : Int)) = true := decide_eq_true c7;clear c7
         by_cases c8 : 0 ≤ x3_2
         · rw [if_pos c8] at H
           have c8b0 : decide (0 ≤ x3_2) = true := decide_eq_true c8;clear c8;have HC9 := Zd.mk H;clear H;have p138 : 0 ≤ (x3_2 : Int) := of_decide_eq_true (by first | (with_reducible assumption) | assumption);have q138 : x3_2 < (l0.length : Int) := of_decide_eq_true (by first | (with_reducible assumption) | assumption);obtain ⟨ad138,e138,hx138_0,hx138_1,hx138_2⟩ := Xo HR0.out x3_2 p138 q138
           cases e138
           replace hx138_0 := (HB.out.cell (World.block_lt_of_cell? w _ hx138_0)).trans hx138_0;replace hx138_1 := (HB.out.cell (World.block_lt_of_cell? w _ hx138_1)).trans hx138_1;replace hx138_2 := (HB.out.cell (World.block_lt_of_cell? w _ hx138_2)).trans hx138_2;replace p138 := eq_true p138;replace q138 := eq_true q138
           go_upto_region 7 with (first | ((with_reducible refine Xq (N := 4) rfl ?_);(try (refine XD (by rfl) ?_;dsimp only));refine Xy ?hg (N := 4) ?hd (cs := #[.int .i64 0,.int .i64 0,.int .i64 0]) (t := 27) ?hr ?_;(case hd => rfl);(case hg => rfl);(case hr => first | (go_simp;done) | (go_simp;rfl));intro gb139 hg w10 hbox hb;have n0_ := Zd.mk (Z0 (by repeat (first | (with_reducible first | exact HB.out | apply Zc | apply Za | apply Zb) | exact HB.out)) hb);have n1_ := Zd.mk (hbox);have n2_ := Zd.mk ((by rw [hg];exact (ZJ (by repeat (first | (with_reducible first | exact HB.out | apply Zc | apply Za | apply Zb) | exact HB.out))) : w.heap.size ≤ gb139));have n3_ := Zd.mk ((by rw [hg];exact (ZJ (by repeat (first | (with_reducible first | exact HB.out | apply Zc | apply Za | apply Zb) | exact HB.out))) : w.heap.size ≤ gb139));clear HB;have HB := n0_;have BK139 := n1_;have GW139 := n2_;have GE139 := n3_;clear n0_ n1_ n2_ n3_;clear hb hbox hg;have hcz11_0 : w10.cell? ⟨gb139,0,none⟩ = some (.int .i64 0) := (Zm BK139.out 0).trans rfl;have hcz11_1 : w10.cell? ⟨gb139,1,none⟩ = some (.int .i64 0) := (Zm BK139.out 1).trans rfl;have hcz11_2 : w10.cell? ⟨gb139,2,none⟩ = some (.int .i64 0) := (Zm BK139.out 2).trans rfl;have hfz11_0 := Zr BK139.out 0;have hfz11_1 := Zr BK139.out 1;have hfz11_2 := Zr BK139.out 2))
           repeat (go_quiet (first | ((with_reducible refine Xq (N := 4) rfl ?_);(try (refine XD (by rfl) ?_;dsimp only));refine Xy ?hg (N := 4) ?hd (cs := #[.int .i64 0,.int .i64 0,.int .i64 0]) (t := 27) ?hr ?_;(case hd => rfl);(case hg => rfl);(case hr => first | (go_simp;done) | (go_simp;rfl));intro gb139 hg w10 hbox hb;have n0_ := Zd.mk (Z0 (by repeat (first | (with_reducible first | exact HB.out | apply Zc | apply Za | apply Zb) | exact HB.out)) hb);have n1_ := Zd.mk (hbox);have n2_ := Zd.mk ((by rw [hg];exact (ZJ (by repeat (first | (with_reducible first | exact HB.out | apply Zc | apply Za | apply Zb) | exact HB.out))) : w.heap.size ≤ gb139));have n3_ := Zd.mk ((by rw [hg];exact (ZJ (by repeat (first | (with_reducible first | exact HB.out | apply Zc | apply Za | apply Zb) | exact HB.out))) : w.heap.size ≤ gb139));clear HB;have HB := n0_;have BK139 := n1_;have GW139 := n2_;have GE139 := n3_;clear n0_ n1_ n2_ n3_;clear hb hbox hg;have hcz11_0 : w10.cell? ⟨gb139,0,none⟩ = some (.int .i64 0) := (Zm BK139.out 0).trans rfl;have hcz11_1 : w10.cell? ⟨gb139,1,none⟩ = some (.int .i64 0) := (Zm BK139.out 1).trans rfl;have hcz11_2 : w10.cell? ⟨gb139,2,none⟩ = some (.int .i64 0) := (Zm BK139.out 2).trans rfl;have hfz11_0 := Zr BK139.out 0;have hfz11_1 := Zr BK139.out 1;have hfz11_2 := Zr BK139.out 2));go_upto_region 7 with (first | ((with_reducible refine Xq (N := 4) rfl ?_);(try (refine XD (by rfl) ?_;dsimp only));refine Xy ?hg (N := 4) ?hd (cs := #[.int .i64 0,.int .i64 0,.int .i64 0]) (t := 27) ?hr ?_;(case hd => rfl);(case hg => rfl);(case hr => first | (go_simp;done) | (go_simp;rfl));intro gb139 hg w10 hbox hb;have n0_ := Zd.mk (Z0 (by repeat (first | (with_reducible first | exact HB.out | apply Zc | apply Za | apply Zb) | exact HB.out)) hb);have n1_ := Zd.mk (hbox);have n2_ := Zd.mk ((by rw [hg];exact (ZJ (by repeat (first | (with_reducible first | exact HB.out | apply Zc | apply Za | apply Zb) | exact HB.out))) : w.heap.size ≤ gb139));have n3_ := Zd.mk ((by rw [hg];exact (ZJ (by repeat (first | (with_reducible first | exact HB.out | apply Zc | apply Za | apply Zb) | exact HB.out))) : w.heap.size ≤ gb139));clear HB;have HB := n0_;have BK139 := n1_;have GW139 := n2_;have GE139 := n3_;clear n0_ n1_ n2_ n3_;clear hb hbox hg;have hcz11_0 : w10.cell? ⟨gb139,0,none⟩ = some (.int .i64 0) := (Zm BK139.out 0).trans rfl;have hcz11_1 : w10.cell? ⟨gb139,1,none⟩ = some (.int .i64 0) := (Zm BK139.out 1).trans rfl;have hcz11_2 : w10.cell? ⟨gb139,2,none⟩ = some (.int .i64 0) := (Zm BK139.out 2).trans rfl;have hfz11_0 := Zr BK139.out 0;have hfz11_1 := Zr BK139.out 1;have hfz11_2 := Zr BK139.out 2)))
           (try simp only [Act.put,YV,YW,YX])
           go_cut [72] (fun v72 wc => ∃ (kq : Nat) (x72_8 : Bool),v72 = .bool x72_8 ∧ Zd (Zi.j2 kq l0 x3_2 x72_8 ((Zf l0 x3_2).f0) ((Zf l0 x3_2).f1) ((Zf l0 x3_2).f2) = some r) ∧ Zd (kq ≤ k2) ∧ Zd (wc.heap[gb139]? = some (.cells #[.int .i64 ((Zf l0 x3_2).f0),.int .i64 ((Zf l0 x3_2).f1),.int .i64 ((Zf l0 x3_2).f2)] 27 (0,0))) ∧ Zd (Below w.heap.size w wc))
           case first =>
            have H := HC9.out;clear HC9
            by_cases c12 : ((Zf l0 x3_2).f0) < 0
            · rw [if_pos c12] at H
              have c12b0 : decide (((Zf l0 x3_2).f0) < 0) = true := decide_eq_true c12;clear c12
              (first | rw [c12b0] | (simp only [i64_w,i32_w];rw [c12b0]) | skip)
              have H' := Zd.mk H;clear H;have hcz13_0 : w10.cell? ⟨gb139,0,none⟩ = some (.int .i64 0) := (Zm BK139.out 0).trans rfl;have hcz13_1 : w10.cell? ⟨gb139,1,none⟩ = some (.int .i64 0) := (Zm BK139.out 1).trans rfl;have hcz13_2 : w10.cell? ⟨gb139,2,none⟩ = some (.int .i64 0) := (Zm BK139.out 2).trans rfl;have hfz13_0 := Zr BK139.out 0;have hfz13_1 := Zr BK139.out 1;have hfz13_2 := Zr BK139.out 2
              go_wp2
              repeat (go_quiet (fail);try go_wp2)
              go_meet
              case rel => exact ⟨_,(true),(by first | rfl | (simp;done) | (simp [*];done)),H',⟨by have := HJ1.out;have := HK2.out;first | omega | exact Nat.le_refl _⟩,⟨by (with_reducible repeat (first | refine Zu ?_ _ | refine Zw ?_ | refine Zs ?_ _));refine ZE (cs := #[.int .i64 ((Zf l0 x3_2).f0),.int .i64 ((Zf l0 x3_2).f1),.int .i64 0]) ?_ 2 _ rfl;(with_reducible repeat (first | refine Zu ?_ _ | refine Zw ?_ | refine Zs ?_ _));refine ZE (cs := #[.int .i64 ((Zf l0 x3_2).f0),.int .i64 0,.int .i64 0]) ?_ 1 _ rfl;(with_reducible repeat (first | refine Zu ?_ _ | refine Zw ?_ | refine Zs ?_ _));refine ZE (cs := #[.int .i64 0,.int .i64 0,.int .i64 0]) ?_ 0 _ rfl;(with_reducible repeat (first | refine Zu ?_ _ | refine Zw ?_ | refine Zs ?_ _));exact BK139.out⟩,⟨by repeat (first | (with_reducible first | exact HB.out | apply Zc | apply Za | apply Zb | refine Z9 ?_ GE139.out) | exact HB.out)⟩⟩
            · rw [if_neg c12] at H
              have c12b0 : decide (((Zf l0 x3_2).f0) < 0) = false := decide_eq_false c12;clear c12
              (first | rw [c12b0] | (simp only [i64_w,i32_w];rw [c12b0]) | skip)
              by_cases c14 : ((Zf l0 x3_2).f0) > 1000000000
              · rw [if_pos c14] at H
                have c14b0 : decide (1000000000 < ((Zf l0 x3_2).f0)) = true := decide_eq_true c14;clear c14;have H' := Zd.mk H;clear H;have hcz15_0 : w10.cell? ⟨gb139,0,none⟩ = some (.int .i64 0) := (Zm BK139.out 0).trans rfl;have hcz15_1 : w10.cell? ⟨gb139,1,none⟩ = some (.int .i64 0) := (Zm BK139.out 1).trans rfl;have hcz15_2 : w10.cell? ⟨gb139,2,none⟩ = some (.int .i64 0) := (Zm BK139.out 2).trans rfl;have hfz15_0 := Zr BK139.out 0;have hfz15_1 := Zr BK139.out 1;have hfz15_2 := Zr BK139.out 2
                go_wp2
                repeat (go_quiet (fail);try go_wp2)
                go_meet
                case rel => exact ⟨_,(true),(by first | rfl | (simp;done) | (simp [*];done)),H',⟨by have := HJ1.out;have := HK2.out;first | omega | exact Nat.le_refl _⟩,⟨by (with_reducible repeat (first | refine Zu ?_ _ | refine Zw ?_ | refine Zs ?_ _));refine ZE (cs := #[.int .i64 ((Zf l0 x3_2).f0),.int .i64 ((Zf l0 x3_2).f1),.int .i64 0]) ?_ 2 _ rfl;(with_reducible repeat (first | refine Zu ?_ _ | refine Zw ?_ | refine Zs ?_ _));refine ZE (cs := #[.int .i64 ((Zf l0 x3_2).f0),.int .i64 0,.int .i64 0]) ?_ 1 _ rfl;(with_reducible repeat (first | refine Zu ?_ _ | refine Zw ?_ | refine Zs ?_ _));refine ZE (cs := #[.int .i64 0,.int .i64 0,.int .i64 0]) ?_ 0 _ rfl;(with_reducible repeat (first | refine Zu ?_ _ | refine Zw ?_ | refine Zs ?_ _));exact BK139.out⟩,⟨by repeat (first | (with_reducible first | exact HB.out | apply Zc | apply Za | apply Zb | refine Z9 ?_ GE139.out) | exact HB.out)⟩⟩
              · rw [if_neg c14] at H
                have c14b0 : decide (1000000000 < ((Zf l0 x3_2).f0)) = false := decide_eq_false c14;clear c14
                by_cases c16 : x3_2 > 0
                · rw [if_pos c16] at H
                  have c16b0 : decide (0 < x3_2) = true := decide_eq_true c16;clear c16
                  obtain ⟨ji17,hji17⟩ : ∃ j_ : Int,(wrap64 (x3_2 - 1)) = j_ := ⟨_,rfl⟩
                  replace H : (if 0 ≤ (ji17) then (if (ji17) < (l0.length : Int) then (if ((Zf l0 x3_2).f0) ≤ ((Zf l0 (ji17)).f0) then (Zi.j2 k2 l0 x3_2 true ((Zf l0 x3_2).f0) ((Zf l0 x3_2).f1) ((Zf l0 x3_2).f2)) else (if ((Zf l0 x3_2).f1) < 1 then (Zi.j2 k2 l0 x3_2 true ((Zf l0 x3_2).f0) ((Zf l0 x3_2).f1) ((Zf l0 x3_2).f2)) else (if ((Zf l0 x3_2).f1) > 67108864 then (Zi.j2 k2 l0 x3_2 true ((Zf l0 x3_2).f0) ((Zf l0 x3_2).f1) ((Zf l0 x3_2).f2)) else (if ((Zf l0 x3_2).f2) < 0 then (Zi.j2 k2 l0 x3_2 true ((Zf l0 x3_2).f0) ((Zf l0 x3_2).f1) ((Zf l0 x3_2).f2)) else (Zi.j2 k2 l0 x3_2 (decide (((Zf l0 x3_2).f2) > 1)) ((Zf l0 x3_2).f0) ((Zf l0 x3_2).f1) ((Zf l0 x3_2).f2)))))) else (none)) else (none)) = some r := by first | (rw [hji17] at H;exact H) | (simp only [hji17] at H ⊢;exact H)
                  have hji17w : (IntKind.i64.wrap (x3_2 - 1)) = ji17 := (i64_w _).trans hji17
                  by_cases c18 : 0 ≤ (ji17)
                  · rw [if_pos c18] at H
                    have c18b0 : decide (0 ≤ (ji17)) = true := decide_eq_true c18;clear c18
                    by_cases c19 : (ji17) < (l0.length : Int)
                    · rw [if_pos c19] at H
                      have c19b0 : decide ((ji17) < (l0.length : Int)) = true := decide_eq_true c19;clear c19
                      by_cases c20 : ((Zf l0 x3_2).f0) ≤ ((Zf l0 (ji17)).f0)
                      · rw [if_pos c20] at H
                        have c20b0 : decide (((Zf l0 x3_2).f0) ≤ ((Zf l0 (ji17)).f0)) = true := decide_eq_true c20;clear c20;have H' := Zd.mk H;clear H;have hcz21_0 : w10.cell? ⟨gb139,0,none⟩ = some (.int .i64 0) := (Zm BK139.out 0).trans rfl;have hcz21_1 : w10.cell? ⟨gb139,1,none⟩ = some (.int .i64 0) := (Zm BK139.out 1).trans rfl;have hcz21_2 : w10.cell? ⟨gb139,2,none⟩ = some (.int .i64 0) := (Zm BK139.out 2).trans rfl;have hfz21_0 := Zr BK139.out 0;have hfz21_1 := Zr BK139.out 1;have hfz21_2 := Zr BK139.out 2;have p140 : 0 ≤ ((ji17) : Int) := of_decide_eq_true (by first | (with_reducible assumption) | assumption);have q140 : (ji17) < (l0.length : Int) := of_decide_eq_true (by first | (with_reducible assumption) | assumption);obtain ⟨ad140,e140,hx140_0,hx140_1,hx140_2⟩ := Xo HR0.out (ji17) p140 q140
                        obtain rfl : ad138 = ad140 := (by injection e140)
                        have hn140_0 : ad138.block ≠ gb139 := Nat.ne_of_lt (Nat.lt_of_lt_of_le (by have := World.block_lt_of_cell? _ _ hx140_0;first | rwa [Zq] at this | exact this) GW139.out);have hn140_1 : ad138.block ≠ gb139 := Nat.ne_of_lt (Nat.lt_of_lt_of_le (by have := World.block_lt_of_cell? _ _ hx140_0;first | rwa [Zq] at this | exact this) GW139.out);have hn140_2 : ad138.block ≠ gb139 := Nat.ne_of_lt (Nat.lt_of_lt_of_le (by have := World.block_lt_of_cell? _ _ hx140_0;first | rwa [Zq] at this | exact this) GW139.out);replace hx140_0 := (HB.out.cell (World.block_lt_of_cell? w _ hx140_0)).trans hx140_0;replace hx140_1 := (HB.out.cell (World.block_lt_of_cell? w _ hx140_1)).trans hx140_1;replace hx140_2 := (HB.out.cell (World.block_lt_of_cell? w _ hx140_2)).trans hx140_2;replace hx140_0 := (ZL (p := ⟨gb139,0,none⟩) (by first | (rw [Zq];exact hn140_0) | (show (Addr.add _ _).block ≠ _;rw [Zq];exact hn140_0) | exact hn140_0) (.int .i64 ((Zf l0 x3_2).f0))).trans hx140_0;replace hx140_1 := (ZL (p := ⟨gb139,0,none⟩) (by first | (rw [Zq];exact hn140_0) | (show (Addr.add _ _).block ≠ _;rw [Zq];exact hn140_0) | exact hn140_0) (.int .i64 ((Zf l0 x3_2).f0))).trans hx140_1;replace hx140_2 := (ZL (p := ⟨gb139,0,none⟩) (by first | (rw [Zq];exact hn140_0) | (show (Addr.add _ _).block ≠ _;rw [Zq];exact hn140_0) | exact hn140_0) (.int .i64 ((Zf l0 x3_2).f0))).trans hx140_2;replace hx140_0 := (ZL (p := ⟨gb139,1,none⟩) (by first | (rw [Zq];exact hn140_1) | (show (Addr.add _ _).block ≠ _;rw [Zq];exact hn140_1) | exact hn140_1) (.int .i64 ((Zf l0 x3_2).f1))).trans hx140_0;replace hx140_1 := (ZL (p := ⟨gb139,1,none⟩) (by first | (rw [Zq];exact hn140_1) | (show (Addr.add _ _).block ≠ _;rw [Zq];exact hn140_1) | exact hn140_1) (.int .i64 ((Zf l0 x3_2).f1))).trans hx140_1;replace hx140_2 := (ZL (p := ⟨gb139,1,none⟩) (by first | (rw [Zq];exact hn140_1) | (show (Addr.add _ _).block ≠ _;rw [Zq];exact hn140_1) | exact hn140_1) (.int .i64 ((Zf l0 x3_2).f1))).trans hx140_2;replace hx140_0 := (ZL (p := ⟨gb139,2,none⟩) (by first | (rw [Zq];exact hn140_2) | (show (Addr.add _ _).block ≠ _;rw [Zq];exact hn140_2) | exact hn140_2) (.int .i64 ((Zf l0 x3_2).f2))).trans hx140_0;replace hx140_1 := (ZL (p := ⟨gb139,2,none⟩) (by first | (rw [Zq];exact hn140_2) | (show (Addr.add _ _).block ≠ _;rw [Zq];exact hn140_2) | exact hn140_2) (.int .i64 ((Zf l0 x3_2).f2))).trans hx140_1;replace hx140_2 := (ZL (p := ⟨gb139,2,none⟩) (by first | (rw [Zq];exact hn140_2) | (show (Addr.add _ _).block ≠ _;rw [Zq];exact hn140_2) | exact hn140_2) (.int .i64 ((Zf l0 x3_2).f2))).trans hx140_2
                        (try have hy140_0 := fun (n_ : Nat) => (show (((((w10.drewN n_).setCell ⟨gb139,0,none⟩ (.int .i64 ((Zf l0 x3_2).f0))).setCell ⟨gb139,1,none⟩ (.int .i64 ((Zf l0 x3_2).f1))).setCell ⟨gb139,2,none⟩ (.int .i64 ((Zf l0 x3_2).f2)))).cell? _ = some _ from hx140_0))
                        (try have hy140_1 := fun (n_ : Nat) => (show (((((w10.drewN n_).setCell ⟨gb139,0,none⟩ (.int .i64 ((Zf l0 x3_2).f0))).setCell ⟨gb139,1,none⟩ (.int .i64 ((Zf l0 x3_2).f1))).setCell ⟨gb139,2,none⟩ (.int .i64 ((Zf l0 x3_2).f2)))).cell? _ = some _ from hx140_1))
                        (try have hy140_2 := fun (n_ : Nat) => (show (((((w10.drewN n_).setCell ⟨gb139,0,none⟩ (.int .i64 ((Zf l0 x3_2).f0))).setCell ⟨gb139,1,none⟩ (.int .i64 ((Zf l0 x3_2).f1))).setCell ⟨gb139,2,none⟩ (.int .i64 ((Zf l0 x3_2).f2)))).cell? _ = some _ from hx140_2))
                        clear hn140_0;clear hn140_1;clear hn140_2;replace p140 := eq_true p140;replace q140 := eq_true q140
                        go_wp2
                        repeat (go_quiet (fail);try go_wp2)
                        go_meet
                        case rel => exact ⟨_,(true),(by first | rfl | (simp;done) | (simp [*];done)),H',⟨by have := HJ1.out;have := HK2.out;first | omega | exact Nat.le_refl _⟩,⟨by (with_reducible repeat (first | refine Zu ?_ _ | refine Zw ?_ | refine Zs ?_ _));refine ZE (cs := #[.int .i64 ((Zf l0 x3_2).f0),.int .i64 ((Zf l0 x3_2).f1),.int .i64 0]) ?_ 2 _ rfl;(with_reducible repeat (first | refine Zu ?_ _ | refine Zw ?_ | refine Zs ?_ _));refine ZE (cs := #[.int .i64 ((Zf l0 x3_2).f0),.int .i64 0,.int .i64 0]) ?_ 1 _ rfl;(with_reducible repeat (first | refine Zu ?_ _ | refine Zw ?_ | refine Zs ?_ _));refine ZE (cs := #[.int .i64 0,.int .i64 0,.int .i64 0]) ?_ 0 _ rfl;(with_reducible repeat (first | refine Zu ?_ _ | refine Zw ?_ | refine Zs ?_ _));exact BK139.out⟩,⟨by repeat (first | (with_reducible first | exact HB.out | apply Zc | apply Za | apply Zb | refine Z9 ?_ GE139.out) | exact HB.out)⟩⟩
                      · rw [if_neg c20] at H
                        have c20b0 : decide (((Zf l0 x3_2).f0) ≤ ((Zf l0 (ji17)).f0)) = false := decide_eq_false c20;clear c20
                        by_cases c22 : ((Zf l0 x3_2).f1) < 1
                        · rw [if_pos c22] at H
                          have c22b0 : decide (((Zf l0 x3_2).f1) < 1) = true := decide_eq_true c22;clear c22;have H' := Zd.mk H;clear H;have hcz23_0 : w10.cell? ⟨gb139,0,none⟩ = some (.int .i64 0) := (Zm BK139.out 0).trans rfl;have hcz23_1 : w10.cell? ⟨gb139,1,none⟩ = some (.int .i64 0) := (Zm BK139.out 1).trans rfl;have hcz23_2 : w10.cell? ⟨gb139,2,none⟩ = some (.int .i64 0) := (Zm BK139.out 2).trans rfl;have hfz23_0 := Zr BK139.out 0;have hfz23_1 := Zr BK139.out 1;have hfz23_2 := Zr BK139.out 2;have p140 : 0 ≤ ((ji17) : Int) := of_decide_eq_true (by first | (with_reducible assumption) | assumption);have q140 : (ji17) < (l0.length : Int) := of_decide_eq_true (by first | (with_reducible assumption) | assumption);obtain ⟨ad140,e140,hx140_0,hx140_1,hx140_2⟩ := Xo HR0.out (ji17) p140 q140
                          obtain rfl : ad138 = ad140 := (by injection e140)
                          have hn140_0 : ad138.block ≠ gb139 := Nat.ne_of_lt (Nat.lt_of_lt_of_le (by have := World.block_lt_of_cell? _ _ hx140_0;first | rwa [Zq] at this | exact this) GW139.out);have hn140_1 : ad138.block ≠ gb139 := Nat.ne_of_lt (Nat.lt_of_lt_of_le (by have := World.block_lt_of_cell? _ _ hx140_0;first | rwa [Zq] at this | exact this) GW139.out);have hn140_2 : ad138.block ≠ gb139 := Nat.ne_of_lt (Nat.lt_of_lt_of_le (by have := World.block_lt_of_cell? _ _ hx140_0;first | rwa [Zq] at this | exact this) GW139.out);replace hx140_0 := (HB.out.cell (World.block_lt_of_cell? w _ hx140_0)).trans hx140_0;replace hx140_1 := (HB.out.cell (World.block_lt_of_cell? w _ hx140_1)).trans hx140_1;replace hx140_2 := (HB.out.cell (World.block_lt_of_cell? w _ hx140_2)).trans hx140_2;replace hx140_0 := (ZL (p := ⟨gb139,0,none⟩) (by first | (rw [Zq];exact hn140_0) | (show (Addr.add _ _).block ≠ _;rw [Zq];exact hn140_0) | exact hn140_0) (.int .i64 ((Zf l0 x3_2).f0))).trans hx140_0;replace hx140_1 := (ZL (p := ⟨gb139,0,none⟩) (by first | (rw [Zq];exact hn140_0) | (show (Addr.add _ _).block ≠ _;rw [Zq];exact hn140_0) | exact hn140_0) (.int .i64 ((Zf l0 x3_2).f0))).trans hx140_1;replace hx140_2 := (ZL (p := ⟨gb139,0,none⟩) (by first | (rw [Zq];exact hn140_0) | (show (Addr.add _ _).block ≠ _;rw [Zq];exact hn140_0) | exact hn140_0) (.int .i64 ((Zf l0 x3_2).f0))).trans hx140_2;replace hx140_0 := (ZL (p := ⟨gb139,1,none⟩) (by first | (rw [Zq];exact hn140_1) | (show (Addr.add _ _).block ≠ _;rw [Zq];exact hn140_1) | exact hn140_1) (.int .i64 ((Zf l0 x3_2).f1))).trans hx140_0;replace hx140_1 := (ZL (p := ⟨gb139,1,none⟩) (by first | (rw [Zq];exact hn140_1) | (show (Addr.add _ _).block ≠ _;rw [Zq];exact hn140_1) | exact hn140_1) (.int .i64 ((Zf l0 x3_2).f1))).trans hx140_1;replace hx140_2 := (ZL (p := ⟨gb139,1,none⟩) (by first | (rw [Zq];exact hn140_1) | (show (Addr.add _ _).block ≠ _;rw [Zq];exact hn140_1) | exact hn140_1) (.int .i64 ((Zf l0 x3_2).f1))).trans hx140_2;replace hx140_0 := (ZL (p := ⟨gb139,2,none⟩) (by first | (rw [Zq];exact hn140_2) | (show (Addr.add _ _).block ≠ _;rw [Zq];exact hn140_2) | exact hn140_2) (.int .i64 ((Zf l0 x3_2).f2))).trans hx140_0;replace hx140_1 := (ZL (p := ⟨gb139,2,none⟩) (by first | (rw [Zq];exact hn140_2) | (show (Addr.add _ _).block ≠ _;rw [Zq];exact hn140_2) | exact hn140_2) (.int .i64 ((Zf l0 x3_2).f2))).trans hx140_1;replace hx140_2 := (ZL (p := ⟨gb139,2,none⟩) (by first | (rw [Zq];exact hn140_2) | (show (Addr.add _ _).block ≠ _;rw [Zq];exact hn140_2) | exact hn140_2) (.int .i64 ((Zf l0 x3_2).f2))).trans hx140_2
                          (try have hy140_0 := fun (n_ : Nat) => (show (((((w10.drewN n_).setCell ⟨gb139,0,none⟩ (.int .i64 ((Zf l0 x3_2).f0))).setCell ⟨gb139,1,none⟩ (.int .i64 ((Zf l0 x3_2).f1))).setCell ⟨gb139,2,none⟩ (.int .i64 ((Zf l0 x3_2).f2)))).cell? _ = some _ from hx140_0))
                          (try have hy140_1 := fun (n_ : Nat) => (show (((((w10.drewN n_).setCell ⟨gb139,0,none⟩ (.int .i64 ((Zf l0 x3_2).f0))).setCell ⟨gb139,1,none⟩ (.int .i64 ((Zf l0 x3_2).f1))).setCell ⟨gb139,2,none⟩ (.int .i64 ((Zf l0 x3_2).f2)))).cell? _ = some _ from hx140_1))
                          (try have hy140_2 := fun (n_ : Nat) => (show (((((w10.drewN n_).setCell ⟨gb139,0,none⟩ (.int .i64 ((Zf l0 x3_2).f0))).setCell ⟨gb139,1,none⟩ (.int .i64 ((Zf l0 x3_2).f1))).setCell ⟨gb139,2,none⟩ (.int .i64 ((Zf l0 x3_2).f2)))).cell? _ = some _ from hx140_2))
                          clear hn140_0;clear hn140_1;clear hn140_2;replace p140 := eq_true p140;replace q140 := eq_true q140
                          go_wp2
                          repeat (go_quiet (fail);try go_wp2)
                          go_meet
                          case rel => exact ⟨_,(true),(by first | rfl | (simp;done) | (simp [*];done)),H',⟨by have := HJ1.out;have := HK2.out;first | omega | exact Nat.le_refl _⟩,⟨by (with_reducible repeat (first | refine Zu ?_ _ | refine Zw ?_ | refine Zs ?_ _));refine ZE (cs := #[.int .i64 ((Zf l0 x3_2).f0),.int .i64 ((Zf l0 x3_2).f1),.int .i64 0]) ?_ 2 _ rfl;(with_reducible repeat (first | refine Zu ?_ _ | refine Zw ?_ | refine Zs ?_ _));refine ZE (cs := #[.int .i64 ((Zf l0 x3_2).f0),.int .i64 0,.int .i64 0]) ?_ 1 _ rfl;(with_reducible repeat (first | refine Zu ?_ _ | refine Zw ?_ | refine Zs ?_ _));refine ZE (cs := #[.int .i64 0,.int .i64 0,.int .i64 0]) ?_ 0 _ rfl;(with_reducible repeat (first | refine Zu ?_ _ | refine Zw ?_ | refine Zs ?_ _));exact BK139.out⟩,⟨by repeat (first | (with_reducible first | exact HB.out | apply Zc | apply Za | apply Zb | refine Z9 ?_ GE139.out) | exact HB.out)⟩⟩
                        · rw [if_neg c22] at H
                          have c22b0 : decide (((Zf l0 x3_2).f1) < 1) = false := decide_eq_false c22;clear c22
                          by_cases c24 : ((Zf l0 x3_2).f1) > 67108864
                          · rw [if_pos c24] at H
                            have c24b0 : decide (67108864 < ((Zf l0 x3_2).f1)) = true := decide_eq_true c24;clear c24;have H' := Zd.mk H;clear H;have hcz25_0 : w10.cell? ⟨gb139,0,none⟩ = some (.int .i64 0) := (Zm BK139.out 0).trans rfl;have hcz25_1 : w10.cell? ⟨gb139,1,none⟩ = some (.int .i64 0) := (Zm BK139.out 1).trans rfl;have hcz25_2 : w10.cell? ⟨gb139,2,none⟩ = some (.int .i64 0) := (Zm BK139.out 2).trans rfl;have hfz25_0 := Zr BK139.out 0;have hfz25_1 := Zr BK139.out 1;have hfz25_2 := Zr BK139.out 2;have p140 : 0 ≤ ((ji17) : Int) := of_decide_eq_true (by first | (with_reducible assumption) | assumption);have q140 : (ji17) < (l0.length : Int) := of_decide_eq_true (by first | (with_reducible assumption) | assumption);obtain ⟨ad140,e140,hx140_0,hx140_1,hx140_2⟩ := Xo HR0.out (ji17) p140 q140
                            obtain rfl : ad138 = ad140 := (by injection e140)
                            have hn140_0 : ad138.block ≠ gb139 := Nat.ne_of_lt (Nat.lt_of_lt_of_le (by have := World.block_lt_of_cell? _ _ hx140_0;first | rwa [Zq] at this | exact this) GW139.out);have hn140_1 : ad138.block ≠ gb139 := Nat.ne_of_lt (Nat.lt_of_lt_of_le (by have := World.block_lt_of_cell? _ _ hx140_0;first | rwa [Zq] at this | exact this) GW139.out);have hn140_2 : ad138.block ≠ gb139 := Nat.ne_of_lt (Nat.lt_of_lt_of_le (by have := World.block_lt_of_cell? _ _ hx140_0;first | rwa [Zq] at this | exact this) GW139.out);replace hx140_0 := (HB.out.cell (World.block_lt_of_cell? w _ hx140_0)).trans hx140_0;replace hx140_1 := (HB.out.cell (World.block_lt_of_cell? w _ hx140_1)).trans hx140_1;replace hx140_2 := (HB.out.cell (World.block_lt_of_cell? w _ hx140_2)).trans hx140_2;replace hx140_0 := (ZL (p := ⟨gb139,0,none⟩) (by first | (rw [Zq];exact hn140_0) | (show (Addr.add _ _).block ≠ _;rw [Zq];exact hn140_0) | exact hn140_0) (.int .i64 ((Zf l0 x3_2).f0))).trans hx140_0;replace hx140_1 := (ZL (p := ⟨gb139,0,none⟩) (by first | (rw [Zq];exact hn140_0) | (show (Addr.add _ _).block ≠ _;rw [Zq];exact hn140_0) | exact hn140_0) (.int .i64 ((Zf l0 x3_2).f0))).trans hx140_1;replace hx140_2 := (ZL (p := ⟨gb139,0,none⟩) (by first | (rw [Zq];exact hn140_0) | (show (Addr.add _ _).block ≠ _;rw [Zq];exact hn140_0) | exact hn140_0) (.int .i64 ((Zf l0 x3_2).f0))).trans hx140_2;replace hx140_0 := (ZL (p := ⟨gb139,1,none⟩) (by first | (rw [Zq];exact hn140_1) | (show (Addr.add _ _).block ≠ _;rw [Zq];exact hn140_1) | exact hn140_1) (.int .i64 ((Zf l0 x3_2).f1))).trans hx140_0;replace hx140_1 := (ZL (p := ⟨gb139,1,none⟩) (by first | (rw [Zq];exact hn140_1) | (show (Addr.add _ _).block ≠ _;rw [Zq];exact hn140_1) | exact hn140_1) (.int .i64 ((Zf l0 x3_2).f1))).trans hx140_1;replace hx140_2 := (ZL (p := ⟨gb139,1,none⟩) (by first | (rw [Zq];exact hn140_1) | (show (Addr.add _ _).block ≠ _;rw [Zq];exact hn140_1) | exact hn140_1) (.int .i64 ((Zf l0 x3_2).f1))).trans hx140_2;replace hx140_0 := (ZL (p := ⟨gb139,2,none⟩) (by first | (rw [Zq];exact hn140_2) | (show (Addr.add _ _).block ≠ _;rw [Zq];exact hn140_2) | exact hn140_2) (.int .i64 ((Zf l0 x3_2).f2))).trans hx140_0;replace hx140_1 := (ZL (p := ⟨gb139,2,none⟩) (by first | (rw [Zq];exact hn140_2) | (show (Addr.add _ _).block ≠ _;rw [Zq];exact hn140_2) | exact hn140_2) (.int .i64 ((Zf l0 x3_2).f2))).trans hx140_1;replace hx140_2 := (ZL (p := ⟨gb139,2,none⟩) (by first | (rw [Zq];exact hn140_2) | (show (Addr.add _ _).block ≠ _;rw [Zq];exact hn140_2) | exact hn140_2) (.int .i64 ((Zf l0 x3_2).f2))).trans hx140_2
                            (try have hy140_0 := fun (n_ : Nat) => (show (((((w10.drewN n_).setCell ⟨gb139,0,none⟩ (.int .i64 ((Zf l0 x3_2).f0))).setCell ⟨gb139,1,none⟩ (.int .i64 ((Zf l0 x3_2).f1))).setCell ⟨gb139,2,none⟩ (.int .i64 ((Zf l0 x3_2).f2)))).cell? _ = some _ from hx140_0))
                            (try have hy140_1 := fun (n_ : Nat) => (show (((((w10.drewN n_).setCell ⟨gb139,0,none⟩ (.int .i64 ((Zf l0 x3_2).f0))).setCell ⟨gb139,1,none⟩ (.int .i64 ((Zf l0 x3_2).f1))).setCell ⟨gb139,2,none⟩ (.int .i64 ((Zf l0 x3_2).f2)))).cell? _ = some _ from hx140_1))
                            (try have hy140_2 := fun (n_ : Nat) => (show (((((w10.drewN n_).setCell ⟨gb139,0,none⟩ (.int .i64 ((Zf l0 x3_2).f0))).setCell ⟨gb139,1,none⟩ (.int .i64 ((Zf l0 x3_2).f1))).setCell ⟨gb139,2,none⟩ (.int .i64 ((Zf l0 x3_2).f2)))).cell? _ = some _ from hx140_2))
                            clear hn140_0;clear hn140_1;clear hn140_2;replace p140 := eq_true p140;replace q140 := eq_true q140
                            go_wp2
                            repeat (go_quiet (fail);try go_wp2)
                            go_meet
                            case rel => exact ⟨_,(true),(by first | rfl | (simp;done) | (simp [*];done)),H',⟨by have := HJ1.out;have := HK2.out;first | omega | exact Nat.le_refl _⟩,⟨by (with_reducible repeat (first | refine Zu ?_ _ | refine Zw ?_ | refine Zs ?_ _));refine ZE (cs := #[.int .i64 ((Zf l0 x3_2).f0),.int .i64 ((Zf l0 x3_2).f1),.int .i64 0]) ?_ 2 _ rfl;(with_reducible repeat (first | refine Zu ?_ _ | refine Zw ?_ | refine Zs ?_ _));refine ZE (cs := #[.int .i64 ((Zf l0 x3_2).f0),.int .i64 0,.int .i64 0]) ?_ 1 _ rfl;(with_reducible repeat (first | refine Zu ?_ _ | refine Zw ?_ | refine Zs ?_ _));refine ZE (cs := #[.int .i64 0,.int .i64 0,.int .i64 0]) ?_ 0 _ rfl;(with_reducible repeat (first | refine Zu ?_ _ | refine Zw ?_ | refine Zs ?_ _));exact BK139.out⟩,⟨by repeat (first | (with_reducible first | exact HB.out | apply Zc | apply Za | apply Zb | refine Z9 ?_ GE139.out) | exact HB.out)⟩⟩
                          · rw [if_neg c24] at H
                            have c24b0 : decide (67108864 < ((Zf l0 x3_2).f1)) = false := decide_eq_false c24;clear c24
                            by_cases c26 : ((Zf l0 x3_2).f2) < 0
                            · rw [if_pos c26] at H
                              have c26b0 : decide (((Zf l0 x3_2).f2) < 0) = true := decide_eq_true c26;clear c26;have H' := Zd.mk H;clear H;have hcz27_0 : w10.cell? ⟨gb139,0,none⟩ = some (.int .i64 0) := (Zm BK139.out 0).trans rfl;have hcz27_1 : w10.cell? ⟨gb139,1,none⟩ = some (.int .i64 0) := (Zm BK139.out 1).trans rfl;have hcz27_2 : w10.cell? ⟨gb139,2,none⟩ = some (.int .i64 0) := (Zm BK139.out 2).trans rfl;have hfz27_0 := Zr BK139.out 0;have hfz27_1 := Zr BK139.out 1;have hfz27_2 := Zr BK139.out 2;have p140 : 0 ≤ ((ji17) : Int) := of_decide_eq_true (by first | (with_reducible assumption) | assumption);have q140 : (ji17) < (l0.length : Int) := of_decide_eq_true (by first | (with_reducible assumption) | assumption);obtain ⟨ad140,e140,hx140_0,hx140_1,hx140_2⟩ := Xo HR0.out (ji17) p140 q140
                              obtain rfl : ad138 = ad140 := (by injection e140)
                              have hn140_0 : ad138.block ≠ gb139 := Nat.ne_of_lt (Nat.lt_of_lt_of_le (by have := World.block_lt_of_cell? _ _ hx140_0;first | rwa [Zq] at this | exact this) GW139.out);have hn140_1 : ad138.block ≠ gb139 := Nat.ne_of_lt (Nat.lt_of_lt_of_le (by have := World.block_lt_of_cell? _ _ hx140_0;first | rwa [Zq] at this | exact this) GW139.out);have hn140_2 : ad138.block ≠ gb139 := Nat.ne_of_lt (Nat.lt_of_lt_of_le (by have := World.block_lt_of_cell? _ _ hx140_0;first | rwa [Zq] at this | exact this) GW139.out);replace hx140_0 := (HB.out.cell (World.block_lt_of_cell? w _ hx140_0)).trans hx140_0;replace hx140_1 := (HB.out.cell (World.block_lt_of_cell? w _ hx140_1)).trans hx140_1;replace hx140_2 := (HB.out.cell (World.block_lt_of_cell? w _ hx140_2)).trans hx140_2;replace hx140_0 := (ZL (p := ⟨gb139,0,none⟩) (by first | (rw [Zq];exact hn140_0) | (show (Addr.add _ _).block ≠ _;rw [Zq];exact hn140_0) | exact hn140_0) (.int .i64 ((Zf l0 x3_2).f0))).trans hx140_0;replace hx140_1 := (ZL (p := ⟨gb139,0,none⟩) (by first | (rw [Zq];exact hn140_0) | (show (Addr.add _ _).block ≠ _;rw [Zq];exact hn140_0) | exact hn140_0) (.int .i64 ((Zf l0 x3_2).f0))).trans hx140_1;replace hx140_2 := (ZL (p := ⟨gb139,0,none⟩) (by first | (rw [Zq];exact hn140_0) | (show (Addr.add _ _).block ≠ _;rw [Zq];exact hn140_0) | exact hn140_0) (.int .i64 ((Zf l0 x3_2).f0))).trans hx140_2;replace hx140_0 := (ZL (p := ⟨gb139,1,none⟩) (by first | (rw [Zq];exact hn140_1) | (show (Addr.add _ _).block ≠ _;rw [Zq];exact hn140_1) | exact hn140_1) (.int .i64 ((Zf l0 x3_2).f1))).trans hx140_0;replace hx140_1 := (ZL (p := ⟨gb139,1,none⟩) (by first | (rw [Zq];exact hn140_1) | (show (Addr.add _ _).block ≠ _;rw [Zq];exact hn140_1) | exact hn140_1) (.int .i64 ((Zf l0 x3_2).f1))).trans hx140_1;replace hx140_2 := (ZL (p := ⟨gb139,1,none⟩) (by first | (rw [Zq];exact hn140_1) | (show (Addr.add _ _).block ≠ _;rw [Zq];exact hn140_1) | exact hn140_1) (.int .i64 ((Zf l0 x3_2).f1))).trans hx140_2;replace hx140_0 := (ZL (p := ⟨gb139,2,none⟩) (by first | (rw [Zq];exact hn140_2) | (show (Addr.add _ _).block ≠ _;rw [Zq];exact hn140_2) | exact hn140_2) (.int .i64 ((Zf l0 x3_2).f2))).trans hx140_0;replace hx140_1 := (ZL (p := ⟨gb139,2,none⟩) (by first | (rw [Zq];exact hn140_2) | (show (Addr.add _ _).block ≠ _;rw [Zq];exact hn140_2) | exact hn140_2) (.int .i64 ((Zf l0 x3_2).f2))).trans hx140_1;replace hx140_2 := (ZL (p := ⟨gb139,2,none⟩) (by first | (rw [Zq];exact hn140_2) | (show (Addr.add _ _).block ≠ _;rw [Zq];exact hn140_2) | exact hn140_2) (.int .i64 ((Zf l0 x3_2).f2))).trans hx140_2
                              (try have hy140_0 := fun (n_ : Nat) => (show (((((w10.drewN n_).setCell ⟨gb139,0,none⟩ (.int .i64 ((Zf l0 x3_2).f0))).setCell ⟨gb139,1,none⟩ (.int .i64 ((Zf l0 x3_2).f1))).setCell ⟨gb139,2,none⟩ (.int .i64 ((Zf l0 x3_2).f2)))).cell? _ = some _ from hx140_0))
                              (try have hy140_1 := fun (n_ : Nat) => (show (((((w10.drewN n_).setCell ⟨gb139,0,none⟩ (.int .i64 ((Zf l0 x3_2).f0))).setCell ⟨gb139,1,none⟩ (.int .i64 ((Zf l0 x3_2).f1))).setCell ⟨gb139,2,none⟩ (.int .i64 ((Zf l0 x3_2).f2)))).cell? _ = some _ from hx140_1))
                              (try have hy140_2 := fun (n_ : Nat) => (show (((((w10.drewN n_).setCell ⟨gb139,0,none⟩ (.int .i64 ((Zf l0 x3_2).f0))).setCell ⟨gb139,1,none⟩ (.int .i64 ((Zf l0 x3_2).f1))).setCell ⟨gb139,2,none⟩ (.int .i64 ((Zf l0 x3_2).f2)))).cell? _ = some _ from hx140_2))
                              clear hn140_0;clear hn140_1;clear hn140_2;replace p140 := eq_true p140;replace q140 := eq_true q140
                              go_wp2
                              repeat (go_quiet (fail);try go_wp2)
                              go_meet
                              case rel => exact ⟨_,(true),(by first | rfl | (simp;done) | (simp [*];done)),H',⟨by have := HJ1.out;have := HK2.out;first | omega | exact Nat.le_refl _⟩,⟨by (with_reducible repeat (first | refine Zu ?_ _ | refine Zw ?_ | refine Zs ?_ _));refine ZE (cs := #[.int .i64 ((Zf l0 x3_2).f0),.int .i64 ((Zf l0 x3_2).f1),.int .i64 0]) ?_ 2 _ rfl;(with_reducible repeat (first | refine Zu ?_ _ | refine Zw ?_ | refine Zs ?_ _));refine ZE (cs := #[.int .i64 ((Zf l0 x3_2).f0),.int .i64 0,.int .i64 0]) ?_ 1 _ rfl;(with_reducible repeat (first | refine Zu ?_ _ | refine Zw ?_ | refine Zs ?_ _));refine ZE (cs := #[.int .i64 0,.int .i64 0,.int .i64 0]) ?_ 0 _ rfl;(with_reducible repeat (first | refine Zu ?_ _ | refine Zw ?_ | refine Zs ?_ _));exact BK139.out⟩,⟨by repeat (first | (with_reducible first | exact HB.out | apply Zc | apply Za | apply Zb | refine Z9 ?_ GE139.out) | exact HB.out)⟩⟩
                            · rw [if_neg c26] at H
                              have c26b0 : decide (((Zf l0 x3_2).f2) < 0) = false := decide_eq_false c26;clear c26;have H' := Zd.mk H;clear H;have hcz28_0 : w10.cell? ⟨gb139,0,none⟩ = some (.int .i64 0) := (Zm BK139.out 0).trans rfl;have hcz28_1 : w10.cell? ⟨gb139,1,none⟩ = some (.int .i64 0) := (Zm BK139.out 1).trans rfl;have hcz28_2 : w10.cell? ⟨gb139,2,none⟩ = some (.int .i64 0) := (Zm BK139.out 2).trans rfl;have hfz28_0 := Zr BK139.out 0;have hfz28_1 := Zr BK139.out 1;have hfz28_2 := Zr BK139.out 2;have p140 : 0 ≤ ((ji17) : Int) := of_decide_eq_true (by first | (with_reducible assumption) | assumption);have q140 : (ji17) < (l0.length : Int) := of_decide_eq_true (by first | (with_reducible assumption) | assumption);obtain ⟨ad140,e140,hx140_0,hx140_1,hx140_2⟩ := Xo HR0.out (ji17) p140 q140
                              obtain rfl : ad138 = ad140 := (by injection e140)
                              have hn140_0 : ad138.block ≠ gb139 := Nat.ne_of_lt (Nat.lt_of_lt_of_le (by have := World.block_lt_of_cell? _ _ hx140_0;first | rwa [Zq] at this | exact this) GW139.out);have hn140_1 : ad138.block ≠ gb139 := Nat.ne_of_lt (Nat.lt_of_lt_of_le (by have := World.block_lt_of_cell? _ _ hx140_0;first | rwa [Zq] at this | exact this) GW139.out);have hn140_2 : ad138.block ≠ gb139 := Nat.ne_of_lt (Nat.lt_of_lt_of_le (by have := World.block_lt_of_cell? _ _ hx140_0;first | rwa [Zq] at this | exact this) GW139.out);replace hx140_0 := (HB.out.cell (World.block_lt_of_cell? w _ hx140_0)).trans hx140_0;replace hx140_1 := (HB.out.cell (World.block_lt_of_cell? w _ hx140_1)).trans hx140_1;replace hx140_2 := (HB.out.cell (World.block_lt_of_cell? w _ hx140_2)).trans hx140_2;replace hx140_0 := (ZL (p := ⟨gb139,0,none⟩) (by first | (rw [Zq];exact hn140_0) | (show (Addr.add _ _).block ≠ _;rw [Zq];exact hn140_0) | exact hn140_0) (.int .i64 ((Zf l0 x3_2).f0))).trans hx140_0;replace hx140_1 := (ZL (p := ⟨gb139,0,none⟩) (by first | (rw [Zq];exact hn140_0) | (show (Addr.add _ _).block ≠ _;rw [Zq];exact hn140_0) | exact hn140_0) (.int .i64 ((Zf l0 x3_2).f0))).trans hx140_1;replace hx140_2 := (ZL (p := ⟨gb139,0,none⟩) (by first | (rw [Zq];exact hn140_0) | (show (Addr.add _ _).block ≠ _;rw [Zq];exact hn140_0) | exact hn140_0) (.int .i64 ((Zf l0 x3_2).f0))).trans hx140_2;replace hx140_0 := (ZL (p := ⟨gb139,1,none⟩) (by first | (rw [Zq];exact hn140_1) | (show (Addr.add _ _).block ≠ _;rw [Zq];exact hn140_1) | exact hn140_1) (.int .i64 ((Zf l0 x3_2).f1))).trans hx140_0;replace hx140_1 := (ZL (p := ⟨gb139,1,none⟩) (by first | (rw [Zq];exact hn140_1) | (show (Addr.add _ _).block ≠ _;rw [Zq];exact hn140_1) | exact hn140_1) (.int .i64 ((Zf l0 x3_2).f1))).trans hx140_1;replace hx140_2 := (ZL (p := ⟨gb139,1,none⟩) (by first | (rw [Zq];exact hn140_1) | (show (Addr.add _ _).block ≠ _;rw [Zq];exact hn140_1) | exact hn140_1) (.int .i64 ((Zf l0 x3_2).f1))).trans hx140_2;replace hx140_0 := (ZL (p := ⟨gb139,2,none⟩) (by first | (rw [Zq];exact hn140_2) | (show (Addr.add _ _).block ≠ _;rw [Zq];exact hn140_2) | exact hn140_2) (.int .i64 ((Zf l0 x3_2).f2))).trans hx140_0;replace hx140_1 := (ZL (p := ⟨gb139,2,none⟩) (by first | (rw [Zq];exact hn140_2) | (show (Addr.add _ _).block ≠ _;rw [Zq];exact hn140_2) | exact hn140_2) (.int .i64 ((Zf l0 x3_2).f2))).trans hx140_1;replace hx140_2 := (ZL (p := ⟨gb139,2,none⟩) (by first | (rw [Zq];exact hn140_2) | (show (Addr.add _ _).block ≠ _;rw [Zq];exact hn140_2) | exact hn140_2) (.int .i64 ((Zf l0 x3_2).f2))).trans hx140_2
                              (try have hy140_0 := fun (n_ : Nat) => (show (((((w10.drewN n_).setCell ⟨gb139,0,none⟩ (.int .i64 ((Zf l0 x3_2).f0))).setCell ⟨gb139,1,none⟩ (.int .i64 ((Zf l0 x3_2).f1))).setCell ⟨gb139,2,none⟩ (.int .i64 ((Zf l0 x3_2).f2)))).cell? _ = some _ from hx140_0))
                              (try have hy140_1 := fun (n_ : Nat) => (show (((((w10.drewN n_).setCell ⟨gb139,0,none⟩ (.int .i64 ((Zf l0 x3_2).f0))).setCell ⟨gb139,1,none⟩ (.int .i64 ((Zf l0 x3_2).f1))).setCell ⟨gb139,2,none⟩ (.int .i64 ((Zf l0 x3_2).f2)))).cell? _ = some _ from hx140_1))
                              (try have hy140_2 := fun (n_ : Nat) => (show (((((w10.drewN n_).setCell ⟨gb139,0,none⟩ (.int .i64 ((Zf l0 x3_2).f0))).setCell ⟨gb139,1,none⟩ (.int .i64 ((Zf l0 x3_2).f1))).setCell ⟨gb139,2,none⟩ (.int .i64 ((Zf l0 x3_2).f2)))).cell? _ = some _ from hx140_2))
                              clear hn140_0;clear hn140_1;clear hn140_2;replace p140 := eq_true p140;replace q140 := eq_true q140
                              go_wp2
                              repeat (go_quiet (fail);try go_wp2)
                              go_meet
                              case rel => exact ⟨_,(decide (((Zf l0 x3_2).f2) > 1)),(by first | rfl | (simp;done) | (simp [*];done)),H',⟨by have := HJ1.out;have := HK2.out;first | omega | exact Nat.le_refl _⟩,⟨by (with_reducible repeat (first | refine Zu ?_ _ | refine Zw ?_ | refine Zs ?_ _));refine ZE (cs := #[.int .i64 ((Zf l0 x3_2).f0),.int .i64 ((Zf l0 x3_2).f1),.int .i64 0]) ?_ 2 _ rfl;(with_reducible repeat (first | refine Zu ?_ _ | refine Zw ?_ | refine Zs ?_ _));refine ZE (cs := #[.int .i64 ((Zf l0 x3_2).f0),.int .i64 0,.int .i64 0]) ?_ 1 _ rfl;(with_reducible repeat (first | refine Zu ?_ _ | refine Zw ?_ | refine Zs ?_ _));refine ZE (cs := #[.int .i64 0,.int .i64 0,.int .i64 0]) ?_ 0 _ rfl;(with_reducible repeat (first | refine Zu ?_ _ | refine Zw ?_ | refine Zs ?_ _));exact BK139.out⟩,⟨by repeat (first | (with_reducible first | exact HB.out | apply Zc | apply Za | apply Zb | refine Z9 ?_ GE139.out) | exact HB.out)⟩⟩
                    · rw [if_neg c19] at H
                      exact absurd H (by simp)
                  · rw [if_neg c18] at H
                    exact absurd H (by simp)
                · rw [if_neg c16] at H
                  have c16b0 : decide (0 < x3_2) = false := decide_eq_false c16;clear c16
                  by_cases c29 : ((Zf l0 x3_2).f1) < 1
                  · rw [if_pos c29] at H
                    have c29b0 : decide (((Zf l0 x3_2).f1) < 1) = true := decide_eq_true c29;clear c29;have H' := Zd.mk H;clear H;have hcz30_0 : w10.cell? ⟨gb139,0,none⟩ = some (.int .i64 0) := (Zm BK139.out 0).trans rfl;have hcz30_1 : w10.cell? ⟨gb139,1,none⟩ = some (.int .i64 0) := (Zm BK139.out 1).trans rfl;have hcz30_2 : w10.cell? ⟨gb139,2,none⟩ = some (.int .i64 0) := (Zm BK139.out 2).trans rfl;have hfz30_0 := Zr BK139.out 0;have hfz30_1 := Zr BK139.out 1;have hfz30_2 := Zr BK139.out 2
                    go_wp2
                    repeat (go_quiet (fail);try go_wp2)
                    go_meet
                    case rel => exact ⟨_,(true),(by first | rfl | (simp;done) | (simp [*];done)),H',⟨by have := HJ1.out;have := HK2.out;first | omega | exact Nat.le_refl _⟩,⟨by (with_reducible repeat (first | refine Zu ?_ _ | refine Zw ?_ | refine Zs ?_ _));refine ZE (cs := #[.int .i64 ((Zf l0 x3_2).f0),.int .i64 ((Zf l0 x3_2).f1),.int .i64 0]) ?_ 2 _ rfl;(with_reducible repeat (first | refine Zu ?_ _ | refine Zw ?_ | refine Zs ?_ _));refine ZE (cs := #[.int .i64 ((Zf l0 x3_2).f0),.int .i64 0,.int .i64 0]) ?_ 1 _ rfl;(with_reducible repeat (first | refine Zu ?_ _ | refine Zw ?_ | refine Zs ?_ _));refine ZE (cs := #[.int .i64 0,.int .i64 0,.int .i64 0]) ?_ 0 _ rfl;(with_reducible repeat (first | refine Zu ?_ _ | refine Zw ?_ | refine Zs ?_ _));exact BK139.out⟩,⟨by repeat (first | (with_reducible first | exact HB.out | apply Zc | apply Za | apply Zb | refine Z9 ?_ GE139.out) | exact HB.out)⟩⟩
                  · rw [if_neg c29] at H
                    have c29b0 : decide (((Zf l0 x3_2).f1) < 1) = false := decide_eq_false c29;clear c29
                    by_cases c31 : ((Zf l0 x3_2).f1) > 67108864
                    · rw [if_pos c31] at H
                      have c31b0 : decide (67108864 < ((Zf l0 x3_2).f1)) = true := decide_eq_true c31;clear c31;have H' := Zd.mk H;clear H;have hcz32_0 : w10.cell? ⟨gb139,0,none⟩ = some (.int .i64 0) := (Zm BK139.out 0).trans rfl;have hcz32_1 : w10.cell? ⟨gb139,1,none⟩ = some (.int .i64 0) := (Zm BK139.out 1).trans rfl;have hcz32_2 : w10.cell? ⟨gb139,2,none⟩ = some (.int .i64 0) := (Zm BK139.out 2).trans rfl;have hfz32_0 := Zr BK139.out 0;have hfz32_1 := Zr BK139.out 1;have hfz32_2 := Zr BK139.out 2
                      go_wp2
                      repeat (go_quiet (fail);try go_wp2)
                      go_meet
                      case rel => exact ⟨_,(true),(by first | rfl | (simp;done) | (simp [*];done)),H',⟨by have := HJ1.out;have := HK2.out;first | omega | exact Nat.le_refl _⟩,⟨by (with_reducible repeat (first | refine Zu ?_ _ | refine Zw ?_ | refine Zs ?_ _));refine ZE (cs := #[.int .i64 ((Zf l0 x3_2).f0),.int .i64 ((Zf l0 x3_2).f1),.int .i64 0]) ?_ 2 _ rfl;(with_reducible repeat (first | refine Zu ?_ _ | refine Zw ?_ | refine Zs ?_ _));refine ZE (cs := #[.int .i64 ((Zf l0 x3_2).f0),.int .i64 0,.int .i64 0]) ?_ 1 _ rfl;(with_reducible repeat (first | refine Zu ?_ _ | refine Zw ?_ | refine Zs ?_ _));refine ZE (cs := #[.int .i64 0,.int .i64 0,.int .i64 0]) ?_ 0 _ rfl;(with_reducible repeat (first | refine Zu ?_ _ | refine Zw ?_ | refine Zs ?_ _));exact BK139.out⟩,⟨by repeat (first | (with_reducible first | exact HB.out | apply Zc | apply Za | apply Zb | refine Z9 ?_ GE139.out) | exact HB.out)⟩⟩
                    · rw [if_neg c31] at H
                      have c31b0 : decide (67108864 < ((Zf l0 x3_2).f1)) = false := decide_eq_false c31;clear c31
                      by_cases c33 : ((Zf l0 x3_2).f2) < 0
                      · rw [if_pos c33] at H
                        have c33b0 : decide (((Zf l0 x3_2).f2) < 0) = true := decide_eq_true c33;clear c33;have H' := Zd.mk H;clear H;have hcz34_0 : w10.cell? ⟨gb139,0,none⟩ = some (.int .i64 0) := (Zm BK139.out 0).trans rfl;have hcz34_1 : w10.cell? ⟨gb139,1,none⟩ = some (.int .i64 0) := (Zm BK139.out 1).trans rfl;have hcz34_2 : w10.cell? ⟨gb139,2,none⟩ = some (.int .i64 0) := (Zm BK139.out 2).trans rfl;have hfz34_0 := Zr BK139.out 0;have hfz34_1 := Zr BK139.out 1;have hfz34_2 := Zr BK139.out 2
                        go_wp2
                        repeat (go_quiet (fail);try go_wp2)
                        go_meet
                        case rel => exact ⟨_,(true),(by first | rfl | (simp;done) | (simp [*];done)),H',⟨by have := HJ1.out;have := HK2.out;first | omega | exact Nat.le_refl _⟩,⟨by (with_reducible repeat (first | refine Zu ?_ _ | refine Zw ?_ | refine Zs ?_ _));refine ZE (cs := #[.int .i64 ((Zf l0 x3_2).f0),.int .i64 ((Zf l0 x3_2).f1),.int .i64 0]) ?_ 2 _ rfl;(with_reducible repeat (first | refine Zu ?_ _ | refine Zw ?_ | refine Zs ?_ _));refine ZE (cs := #[.int .i64 ((Zf l0 x3_2).f0),.int .i64 0,.int .i64 0]) ?_ 1 _ rfl;(with_reducible repeat (first | refine Zu ?_ _ | refine Zw ?_ | refine Zs ?_ _));refine ZE (cs := #[.int .i64 0,.int .i64 0,.int .i64 0]) ?_ 0 _ rfl;(with_reducible repeat (first | refine Zu ?_ _ | refine Zw ?_ | refine Zs ?_ _));exact BK139.out⟩,⟨by repeat (first | (with_reducible first | exact HB.out | apply Zc | apply Za | apply Zb | refine Z9 ?_ GE139.out) | exact HB.out)⟩⟩
                      · rw [if_neg c33] at H
                        have c33b0 : decide (((Zf l0 x3_2).f2) < 0) = false := decide_eq_false c33;clear c33;have H' := Zd.mk H;clear H;have hcz35_0 : w10.cell? ⟨gb139,0,none⟩ = some (.int .i64 0) := (Zm BK139.out 0).trans rfl;have hcz35_1 : w10.cell? ⟨gb139,1,none⟩ = some (.int .i64 0) := (Zm BK139.out 1).trans rfl;have hcz35_2 : w10.cell? ⟨gb139,2,none⟩ = some (.int .i64 0) := (Zm BK139.out 2).trans rfl;have hfz35_0 := Zr BK139.out 0;have hfz35_1 := Zr BK139.out 1;have hfz35_2 := Zr BK139.out 2
                        go_wp2
                        repeat (go_quiet (fail);try go_wp2)
                        go_meet
                        case rel => exact ⟨_,(decide (((Zf l0 x3_2).f2) > 1)),(by first | rfl | (simp;done) | (simp [*];done)),H',⟨by have := HJ1.out;have := HK2.out;first | omega | exact Nat.le_refl _⟩,⟨by (with_reducible repeat (first | refine Zu ?_ _ | refine Zw ?_ | refine Zs ?_ _));refine ZE (cs := #[.int .i64 ((Zf l0 x3_2).f0),.int .i64 ((Zf l0 x3_2).f1),.int .i64 0]) ?_ 2 _ rfl;(with_reducible repeat (first | refine Zu ?_ _ | refine Zw ?_ | refine Zs ?_ _));refine ZE (cs := #[.int .i64 ((Zf l0 x3_2).f0),.int .i64 0,.int .i64 0]) ?_ 1 _ rfl;(with_reducible repeat (first | refine Zu ?_ _ | refine Zw ?_ | refine Zs ?_ _));refine ZE (cs := #[.int .i64 0,.int .i64 0,.int .i64 0]) ?_ 0 _ rfl;(with_reducible repeat (first | refine Zu ?_ _ | refine Zw ?_ | refine Zs ?_ _));exact BK139.out⟩,⟨by repeat (first | (with_reducible first | exact HB.out | apply Zc | apply Za | apply Zb | refine Z9 ?_ GE139.out) | exact HB.out)⟩⟩
           case rest =>
            clear HC9
            (try clear c1); (try clear p1); (try clear q1); (try clear hx1); (try clear qi1); (try clear c2); (try clear p2); (try clear c3); (try clear c3b0); (try clear c3b1); (try clear c4); (try clear c4b0); (try clear c4b1); (try clear c5); (try clear c5b0); (try clear c5b1); (try clear c6); (try clear p6); (try clear c7); (try clear c7b0); (try clear c8); (try clear c8b0); (try clear c11); (try clear c12); (try clear c12b0); (try clear p13); (try clear q13); (try clear hx13); (try clear qi13); (try clear c14); (try clear c14b0); (try clear p14); (try clear q14); (try clear hx14); (try clear c16); (try clear c16b0); (try clear c18); (try clear c18b0); (try clear c19); (try clear c19b0); (try clear c20); (try clear c20b0); (try clear c22); (try clear c22b0); (try clear c24); (try clear c24b0); (try clear c26); (try clear c26b0); (try clear c29); (try clear c29b0); (try clear c31); (try clear c31b0); (try clear c33); (try clear c33b0); (try clear hcz11_0); (try clear hcz11_1); (try clear hcz11_2); (try clear hcz13_0); (try clear hcz13_1); (try clear hcz13_2); (try clear hcz15_0); (try clear hcz15_1); (try clear hcz15_2); (try clear hcz21_0); (try clear hcz21_1); (try clear hcz21_2); (try clear hcz23_0); (try clear hcz23_1); (try clear hcz23_2); (try clear hcz25_0); (try clear hcz25_1); (try clear hcz25_2); (try clear hcz27_0); (try clear hcz27_1); (try clear hcz27_2); (try clear hcz28_0); (try clear hcz28_1); (try clear hcz28_2); (try clear hcz30_0); (try clear hcz30_1); (try clear hcz30_2); (try clear hcz32_0); (try clear hcz32_1); (try clear hcz32_2); (try clear hcz34_0); (try clear hcz34_1); (try clear hcz34_2); (try clear hcz35_0); (try clear hcz35_1); (try clear hcz35_2); (try clear hfz11_0); (try clear hfz11_1); (try clear hfz11_2); (try clear hfz13_0); (try clear hfz13_1); (try clear hfz13_2); (try clear hfz15_0); (try clear hfz15_1); (try clear hfz15_2); (try clear hfz21_0); (try clear hfz21_1); (try clear hfz21_2); (try clear hfz23_0); (try clear hfz23_1); (try clear hfz23_2); (try clear hfz25_0); (try clear hfz25_1); (try clear hfz25_2); (try clear hfz27_0); (try clear hfz27_1); (try clear hfz27_2); (try clear hfz28_0); (try clear hfz28_1); (try clear hfz28_2); (try clear hfz30_0); (try clear hfz30_1); (try clear hfz30_2); (try clear hfz32_0); (try clear hfz32_1); (try clear hfz32_2); (try clear hfz34_0); (try clear hfz34_1); (try clear hfz34_2); (try clear hfz35_0); (try clear hfz35_1); (try clear hfz35_2); (try clear hx137_0); (try clear hx137_1); (try clear hx137_2); (try clear hx138_0); (try clear hx138_1); (try clear hx138_2); (try clear hx140_0); (try clear hx140_1); (try clear hx140_2); (try clear p1); (try clear p137); (try clear p138); (try clear p140); (try clear p2); (try clear q1); (try clear q137); (try clear q138); (try clear q140)
            obtain ⟨kq,x72_8,rfl,HA,HJ8,BK139,HB⟩ := hcut
            cases kq with
            | zero => exact absurd HA.out (by simp [Zi.j2])
            | succ kj8 =>
             have H := HA.out;clear HA;simp only [Zi.j2] at H
             by_cases c36 : x72_8 = true
             · subst c36
               have H1 : (some false) = some r := by rw [if_pos rfl] at H;exact H
               clear H;have H := H1;clear H1;obtain rfl := Option.some.inj H
               go_wp2
               repeat (go_quiet (fail);try go_wp2)
               go_ret;exact ⟨by first | rfl | (simp [Zt,Zv] <;> rfl) | (simp [*,Zt,Zv] <;> rfl),by repeat (first | (with_reducible first | exact HB.out | apply Zc | apply Za | apply Zb | refine Z9 ?_ GE139.out) | exact HB.out)⟩
             · replace c36 := Bool.eq_false_iff.mpr c36
               subst c36
               have H1 : (if ((Zf l0 x3_2).f2) = 1 then (if x3_2 = (wrap64 ((l0.length : Int) - 1)) then (some false) else (if 0 ≤ (wrap64 (x3_2 + 1)) then (if (wrap64 (x3_2 + 1)) < (l0.length : Int) then (if (wrap64 (((Zf l0 (wrap64 (x3_2 + 1))).f0) - ((Zf l0 x3_2).f0))) > 10000 then (some false) else (Zi.l0 kj8 l0 (wrap64 (x3_2 + 1)))) else (none)) else (none))) else (Zi.l0 kj8 l0 (wrap64 (x3_2 + 1)))) = some r := by rw [if_neg (show ¬ (false = true) by decide)] at H;exact H
               clear H;have H := H1;clear H1
               by_cases c37 : ((Zf l0 x3_2).f2) = 1
               · rw [if_pos c37] at H
                 have c37b0 : (((Zf l0 x3_2).f2) == 1) = true := beq_iff_eq.mpr c37;have c37b1 : (((Zf l0 x3_2).f2) != 1) = false := bne_eq_false_iff_eq.mpr c37;clear c37
                 by_cases c38 : x3_2 = (wrap64 ((l0.length : Int) - 1))
                 · rw [if_pos c38] at H
                   have c38b0 : (x3_2 == (wrap64 ((l0.length : Int) - 1))) = true := beq_iff_eq.mpr c38;have c38b1 : (x3_2 != (wrap64 ((l0.length : Int) - 1))) = false := bne_eq_false_iff_eq.mpr c38;clear c38;obtain rfl := Option.some.inj H;have hcz39_0 : wc.cell? ⟨gb139,0,none⟩ = some (.int .i64 ((Zf l0 x3_2).f0)) := (Zm BK139.out 0).trans rfl;have hcz39_1 : wc.cell? ⟨gb139,1,none⟩ = some (.int .i64 ((Zf l0 x3_2).f1)) := (Zm BK139.out 1).trans rfl;have hcz39_2 : wc.cell? ⟨gb139,2,none⟩ = some (.int .i64 ((Zf l0 x3_2).f2)) := (Zm BK139.out 2).trans rfl;have hfz39_0 := Zr BK139.out 0;have hfz39_1 := Zr BK139.out 1;have hfz39_2 := Zr BK139.out 2
                   go_wp2
                   repeat (go_quiet (fail);try go_wp2)
                   go_ret;exact ⟨by first | rfl | (simp [Zt,Zv] <;> rfl) | (simp [*,Zt,Zv] <;> rfl),by repeat (first | (with_reducible first | exact HB.out | apply Zc | apply Za | apply Zb | refine Z9 ?_ GE139.out) | exact HB.out)⟩
                 · rw [if_neg c38] at H
                   have c38b0 : (x3_2 == (wrap64 ((l0.length : Int) - 1))) = false := beq_eq_false_iff_ne.mpr c38;have c38b1 : (x3_2 != (wrap64 ((l0.length : Int) - 1))) = true := bne_iff_ne.mpr c38
                   obtain ⟨ji40,hji40⟩ : ∃ j_ : Int,(wrap64 (x3_2 + 1)) = j_ := ⟨_,rfl⟩
                   replace H : (if 0 ≤ (ji40) then (if (ji40) < (l0.length : Int) then (if (wrap64 (((Zf l0 (ji40)).f0) - ((Zf l0 x3_2).f0))) > 10000 then (some false) else (Zi.l0 kj8 l0 ji40)) else (none)) else (none)) = some r := by first | (rw [hji40] at H;exact H) | (simp only [hji40] at H ⊢;exact H)
                   have hji40w : (IntKind.i64.wrap (x3_2 + 1)) = ji40 := (i64_w _).trans hji40
                   by_cases c41 : 0 ≤ (ji40)
                   · rw [if_pos c41] at H
                     have c41b0 : decide (0 ≤ (ji40)) = true := decide_eq_true c41;clear c41
                     by_cases c42 : (ji40) < (l0.length : Int)
                     · rw [if_pos c42] at H
                       have c42b0 : decide ((ji40) < (l0.length : Int)) = true := decide_eq_true c42;clear c42
                       by_cases c43 : (wrap64 (((Zf l0 (ji40)).f0) - ((Zf l0 x3_2).f0))) > 10000
                       · rw [if_pos c43] at H
                         have c43b0 : decide (10000 < (wrap64 (((Zf l0 (ji40)).f0) - ((Zf l0 x3_2).f0)))) = true := decide_eq_true c43;clear c43;obtain rfl := Option.some.inj H;have hcz44_0 : wc.cell? ⟨gb139,0,none⟩ = some (.int .i64 ((Zf l0 x3_2).f0)) := (Zm BK139.out 0).trans rfl;have hcz44_1 : wc.cell? ⟨gb139,1,none⟩ = some (.int .i64 ((Zf l0 x3_2).f1)) := (Zm BK139.out 1).trans rfl;have hcz44_2 : wc.cell? ⟨gb139,2,none⟩ = some (.int .i64 ((Zf l0 x3_2).f2)) := (Zm BK139.out 2).trans rfl;have hfz44_0 := Zr BK139.out 0;have hfz44_1 := Zr BK139.out 1;have hfz44_2 := Zr BK139.out 2;have p141 : 0 ≤ ((ji40) : Int) := of_decide_eq_true (by first | (with_reducible assumption) | assumption);have q141 : (ji40) < (l0.length : Int) := of_decide_eq_true (by first | (with_reducible assumption) | assumption);obtain ⟨ad141,e141,hx141_0,hx141_1,hx141_2⟩ := Xo HR0.out (ji40) p141 q141
                         obtain rfl : ad138 = ad141 := (by injection e141)
                         replace hx141_0 := (HB.out.cell (World.block_lt_of_cell? w _ hx141_0)).trans hx141_0;replace hx141_1 := (HB.out.cell (World.block_lt_of_cell? w _ hx141_1)).trans hx141_1;replace hx141_2 := (HB.out.cell (World.block_lt_of_cell? w _ hx141_2)).trans hx141_2;replace p141 := eq_true p141;replace q141 := eq_true q141
                         go_wp2
                         repeat (go_quiet (fail);try go_wp2)
                         go_ret;exact ⟨by first | rfl | (simp [Zt,Zv] <;> rfl) | (simp only [← hji40];first | rfl | (simp [Zt,Zv] <;> rfl)) | (simp [*,Zt,Zv] <;> rfl),by repeat (first | (with_reducible first | exact HB.out | apply Zc | apply Za | apply Zb | refine Z9 ?_ GE139.out) | exact HB.out)⟩
                       · rw [if_neg c43] at H
                         have c43b0 : decide (10000 < (wrap64 (((Zf l0 (ji40)).f0) - ((Zf l0 x3_2).f0)))) = false := decide_eq_false c43;clear c43;have H' := Zd.mk H;clear H;have hcz45_0 : wc.cell? ⟨gb139,0,none⟩ = some (.int .i64 ((Zf l0 x3_2).f0)) := (Zm BK139.out 0).trans rfl;have hcz45_1 : wc.cell? ⟨gb139,1,none⟩ = some (.int .i64 ((Zf l0 x3_2).f1)) := (Zm BK139.out 1).trans rfl;have hcz45_2 : wc.cell? ⟨gb139,2,none⟩ = some (.int .i64 ((Zf l0 x3_2).f2)) := (Zm BK139.out 2).trans rfl;have hfz45_0 := Zr BK139.out 0;have hfz45_1 := Zr BK139.out 1;have hfz45_2 := Zr BK139.out 2;have p141 : 0 ≤ ((ji40) : Int) := of_decide_eq_true (by first | (with_reducible assumption) | assumption);have q141 : (ji40) < (l0.length : Int) := of_decide_eq_true (by first | (with_reducible assumption) | assumption);obtain ⟨ad141,e141,hx141_0,hx141_1,hx141_2⟩ := Xo HR0.out (ji40) p141 q141
                         obtain rfl : ad138 = ad141 := (by injection e141)
                         replace hx141_0 := (HB.out.cell (World.block_lt_of_cell? w _ hx141_0)).trans hx141_0;replace hx141_1 := (HB.out.cell (World.block_lt_of_cell? w _ hx141_1)).trans hx141_1;replace hx141_2 := (HB.out.cell (World.block_lt_of_cell? w _ hx141_2)).trans hx141_2;replace p141 := eq_true p141;replace q141 := eq_true q141
                         go_wp2
                         repeat (go_quiet (fail);try go_wp2)
                         go_roundg kj8
                         case measure => have := HJ1.out;have := HK2.out;have := HJ8.out;omega
                         case rel => exact ⟨(ji40),(by first | rfl | (simp;done) | (simp only [← hji40] <;> (first | rfl | simp)) | (simp [*];done)),H',⟨by have := HJ1.out;have := HK2.out;have := HJ8.out;omega⟩,⟨by repeat (first | (with_reducible first | exact HB.out | apply Zc | apply Za | apply Zb | refine Z9 ?_ GE139.out) | exact HB.out)⟩⟩
                     · rw [if_neg c42] at H
                       exact absurd H (by simp)
                   · rw [if_neg c41] at H
                     exact absurd H (by simp)
               · rw [if_neg c37] at H
                 have c37b0 : (((Zf l0 x3_2).f2) == 1) = false := beq_eq_false_iff_ne.mpr c37;have c37b1 : (((Zf l0 x3_2).f2) != 1) = true := bne_iff_ne.mpr c37;have H' := Zd.mk H;clear H;have hcz46_0 : wc.cell? ⟨gb139,0,none⟩ = some (.int .i64 ((Zf l0 x3_2).f0)) := (Zm BK139.out 0).trans rfl;have hcz46_1 : wc.cell? ⟨gb139,1,none⟩ = some (.int .i64 ((Zf l0 x3_2).f1)) := (Zm BK139.out 1).trans rfl;have hcz46_2 : wc.cell? ⟨gb139,2,none⟩ = some (.int .i64 ((Zf l0 x3_2).f2)) := (Zm BK139.out 2).trans rfl;have hfz46_0 := Zr BK139.out 0;have hfz46_1 := Zr BK139.out 1;have hfz46_2 := Zr BK139.out 2
                 go_wp2
                 repeat (go_quiet (fail);try go_wp2)
                 go_roundg kj8
                 case measure => have := HJ1.out;have := HK2.out;have := HJ8.out;omega
                 case rel => exact ⟨(wrap64 (x3_2 + 1)),(by first | rfl | (simp;done) | (simp [*];done)),H',⟨by have := HJ1.out;have := HK2.out;have := HJ8.out;omega⟩,⟨by repeat (first | (with_reducible first | exact HB.out | apply Zc | apply Za | apply Zb | refine Z9 ?_ GE139.out) | exact HB.out)⟩⟩
         · rw [if_neg c8] at H
           exact absurd H (by simp)
       · rw [if_neg c7] at H
         have c7b0 : decide (x3_2 < (l0.length : Int)) = false := decide_eq_false c7;clear c7;obtain rfl := Option.some.inj H
         go_wp2
         repeat (go_quiet (fail);try go_wp2)
         go_ret;exact ⟨by first | rfl | (simp [Zt,Zv] <;> rfl) | (simp [*,Zt,Zv] <;> rfl),by repeat (first | (with_reducible first | exact HB.out | apply Zc | apply Za | apply Zb) | exact HB.out)⟩
end Go.Proofs.Ytomlfbmfdoallaa.PA

namespace Go.Proofs.Ytomlfbmfdoallaa.PA
open Go.RowKit Go.Proofs.YtomlfbmfdoallaaW.PrintWords Go.Proofs.YtomlfbmfdoallaaW.PrintLast Go.Proofs.YtomlfbmfdoallaaW.PrintMore
attribute [local go_sem] Xf Xe Xj Xk ZV ZU Xd Xc
set_option linter.unusedVariables false
set_option linter.unusedSimpArgs false
def ZD.l0 : Nat → List (S27) → Int → Int → Option (Int)
 | 0,_,_,_ => none
 | k + 1,x0,x1,x5 => if (wrap64 (x5 + 1)) < (x0.length : Int) then (if 0 ≤ (wrap64 (x5 + 1)) then (if ((Zf x0 (wrap64 (x5 + 1))).f0) ≤ x1 then (ZD.l0 k x0 x1 (wrap64 (x5 + 1))) else (some x5)) else (none)) else (some x5)
def ZD.f (k : Nat) (l0 : List (S27)) (a1 : Int) : Option (Int) := ZD.l0 k l0 a1 0
theorem ZD.Xm : ∀ k,(∀ y0 y1 y2,LeO (ZD.l0 k y0 y1 y2) (ZD.l0 (k + 1) y0 y1 y2))
 | 0 => fun _ _ _ r h => by simp [ZD.l0] at h
 | k + 1 => by
  have ih0 := ZD.Xm k
  · intro y0 y1 y2
    unfold ZD.l0
    repeat' first
    | (with_reducible exact ih0 _ _ _)
    | (with_reducible exact LeO.refl _)
    | (with_reducible exact LeO.none _)
    | (with_reducible refine LeO.ite ?_ ?_)
    | (with_reducible refine LeO.bind ?_ (fun _ => ?_))
    | exact ih0 _ _ _
    | exact LeO.none _
    | refine LeO.ite ?_ ?_
    | refine LeO.bind ?_ (fun _ => ?_)
theorem ZD.mono : ∀ a0 a1 k,LeO (ZD.f k a0 a1) (ZD.f (k + 1) a0 a1) := by
 intro a0 a1 k;have ih0 := ZD.Xm k;unfold ZD.f
 repeat' first
  | (with_reducible exact ih0 _ _ _)
  | (with_reducible exact LeO.refl _)
  | (with_reducible exact LeO.none _)
  | (with_reducible refine LeO.ite ?_ ?_)
  | (with_reducible refine LeO.bind ?_ (fun _ => ?_))
  | exact ih0 _ _ _
  | exact LeO.none _
  | refine LeO.ite ?_ ?_
  | refine LeO.bind ?_ (fun _ => ?_)
set_option maxHeartbeats 8000000 in
set_option maxRecDepth 100000 in
theorem ZD.calls (k : Nat) (A0 : Option Addr) (c0 : Nat) (l0 : List (S27)) (a1 : Int) (r : Int) (w : World) (hr0 : Kd.C k27 w A0 l0.length l0) (hc0 : l0.length ≤ c0) (h : ZD.f k l0 a1 = some r) :
 Calls Try.prog 56 #[.slice A0 l0.length c0,.int .i64 a1] w fun e w' => e = .returned (.int .i64 r) ∧ Drawn0 w w' := by
 have HR0 := Zd.mk hr0;have HC0 := Zd.mk hc0;clear hr0 hc0;have H : (ZD.l0 k l0 a1 0) = some r := h;clear h;have H' := Zd.mk H;clear H
 go_enter Try.func56,Try.ntmps56
 go_wp2
 go_loopg [5] k (fun kq v5 w' => ∃ (x5_1 : Int),v5 = .int .i64 x5_1 ∧ Zd (ZD.l0 kq l0 a1 x5_1 = some r) ∧ Zd (kq ≤ k) ∧ Drawn0 w w')
 case atStart => exact ⟨(0),(by first | rfl | (simp;done) | (simp [*];done)),H',⟨Nat.le_refl _⟩,by repeat (first | exact Drawn0.refl _ | apply Drawn0.step)⟩
 case round =>
  clear H'
  (try clear p2)
  obtain ⟨x5_1,rfl,HA,HK1,⟨m1,rfl⟩⟩ := hrel
  cases gk with
  | zero => exact absurd HA.out (by simp [ZD.l0])
  | succ k1 =>
   have H := HA.out;clear HA;simp only [ZD.l0] at H
   by_cases c3 : (wrap64 (x5_1 + 1)) < (l0.length : Int)
   · rw [if_pos c3] at H
     have c3b0 : decide ((wrap64 (x5_1 + 1)) < (l0.length : Int)) = true := decide_eq_true c3;clear c3
     obtain ⟨ji4,hji4⟩ : ∃ j_ : Int,(wrap64 (x5_1 + 1)) = j_ := ⟨_,rfl⟩
     replace H : (if 0 ≤ (ji4) then (if ((Zf l0 (ji4)).f0) ≤ a1 then (ZD.l0 k1 l0 a1 ji4) else (some x5_1)) else (none)) = some r := by first | (rw [hji4] at H;exact H) | (simp only [hji4] at H ⊢;exact H)
     (try rw [hji4] at c3b0)
     have hji4w : (IntKind.i64.wrap (x5_1 + 1)) = ji4 := (i64_w _).trans hji4
     by_cases c5 : 0 ≤ (ji4)
     · rw [if_pos c5] at H
       have c5b0 : decide (0 ≤ (ji4)) = true := decide_eq_true c5;clear c5
       by_cases c6 : ((Zf l0 (ji4)).f0) ≤ a1
       · rw [if_pos c6] at H
         have c6b0 : decide (((Zf l0 (ji4)).f0) ≤ a1) = true := decide_eq_true c6;clear c6;have H' := Zd.mk H;clear H;have p247 : 0 ≤ ((ji4) : Int) := of_decide_eq_true (by first | (with_reducible assumption) | assumption);have q247 : (ji4) < (l0.length : Int) := of_decide_eq_true (by first | (with_reducible assumption) | assumption);obtain ⟨ad247,e247,hx247_0,hx247_1,hx247_2⟩ := Xo HR0.out (ji4) p247 q247
         cases e247
         replace p247 := eq_true p247;replace q247 := eq_true q247
         go_wp2
         go_roundg k1
         case measure => have := HK1.out;omega
         case rel => exact ⟨(ji4),(by first | rfl | (simp;done) | (simp only [← hji4] <;> (first | rfl | simp)) | (simp [*];done)),H',⟨by have := HK1.out;omega⟩,by repeat (first | exact Drawn0.refl _ | apply Drawn0.step)⟩
       · rw [if_neg c6] at H
         have c6b0 : decide (((Zf l0 (ji4)).f0) ≤ a1) = false := decide_eq_false c6;clear c6;obtain rfl := Option.some.inj H;have p247 : 0 ≤ ((ji4) : Int) := of_decide_eq_true (by first | (with_reducible assumption) | assumption);have q247 : (ji4) < (l0.length : Int) := of_decide_eq_true (by first | (with_reducible assumption) | assumption);obtain ⟨ad247,e247,hx247_0,hx247_1,hx247_2⟩ := Xo HR0.out (ji4) p247 q247
         cases e247
         replace p247 := eq_true p247;replace q247 := eq_true q247
         go_wp2
         go_ret;exact ⟨by first | rfl | (simp;done) | (simp only [← hji4] <;> (first | rfl | simp)) | (simp [*];done),by repeat (first | exact Drawn0.refl _ | apply Drawn0.step)⟩
     · rw [if_neg c5] at H
       exact absurd H (by simp)
   · rw [if_neg c3] at H
     have c3b0 : decide ((wrap64 (x5_1 + 1)) < (l0.length : Int)) = false := decide_eq_false c3;clear c3;obtain rfl := Option.some.inj H
     go_wp2
     go_ret;exact ⟨by first | rfl | (simp;done) | (simp [*];done),by repeat (first | exact Drawn0.refl _ | apply Drawn0.step)⟩
end Go.Proofs.Ytomlfbmfdoallaa.PA

namespace Go.Proofs.Ytomlfbmfdoallaa.PA
open Go.RowKit Go.Proofs.YtomlfbmfdoallaaW.PrintWords Go.Proofs.YtomlfbmfdoallaaW.PrintLast Go.Proofs.YtomlfbmfdoallaaW.PrintMore
attribute [local go_sem] Xf Xe Xj Xk ZV ZU Xd Xc
set_option linter.unusedVariables false
set_option linter.unusedSimpArgs false
def ZX.f (l0 : List (S27)) (a1 : Int) (a2 : Int) : Option (Int) := if 0 ≤ a1 then (if a1 < (l0.length : Int) then (if ((Zf l0 a1).f2) = 0 then ((ZA.f (wrap64 (a2 * ((Zf l0 a1).f1))) 65536).bind fun t250 => (some t250)) else (if 0 ≤ (wrap64 (a1 + 1)) then (if (wrap64 (a1 + 1)) < (l0.length : Int) then ((ZA.f (wrap64 ((wrap64 ((wrap64 ((wrap64 (2 * (wrap64 (((Zf l0 (wrap64 (a1 + 1))).f0) - ((Zf l0 a1).f0))))) * a2)) * ((Zf l0 a1).f1))) + (wrap64 ((wrap64 ((wrap64 (((Zf l0 (wrap64 (a1 + 1))).f1) - ((Zf l0 a1).f1))) * a2)) * (wrap64 (a2 - 1)))))) (wrap64 ((wrap64 (2 * (wrap64 (((Zf l0 (wrap64 (a1 + 1))).f0) - ((Zf l0 a1).f0))))) * 65536))).bind fun t254 => (some t254)) else (none)) else (none))) else (none)) else (none)
set_option maxHeartbeats 8000000 in
set_option maxRecDepth 100000 in
theorem ZX.calls (A0 : Option Addr) (c0 : Nat) (l0 : List (S27)) (a1 : Int) (a2 : Int) (r : Int) (w : World) (hr0 : Kd.C k27 w A0 l0.length l0) (hc0 : l0.length ≤ c0) (h : ZX.f l0 a1 a2 = some r) :
 Calls Try.prog 70 #[.slice A0 l0.length c0,.int .i64 a1,.int .i64 a2] w fun e w' => e = .returned (.int .i64 r) ∧ Drawn0 w w' := by
 have HR0 := Zd.mk hr0;have HC0 := Zd.mk hc0;clear hr0 hc0;have H : (if 0 ≤ a1 then (if a1 < (l0.length : Int) then (if ((Zf l0 a1).f2) = 0 then ((ZA.f (wrap64 (a2 * ((Zf l0 a1).f1))) 65536).bind fun t250 => (some t250)) else (if 0 ≤ (wrap64 (a1 + 1)) then (if (wrap64 (a1 + 1)) < (l0.length : Int) then ((ZA.f (wrap64 ((wrap64 ((wrap64 ((wrap64 (2 * (wrap64 (((Zf l0 (wrap64 (a1 + 1))).f0) - ((Zf l0 a1).f0))))) * a2)) * ((Zf l0 a1).f1))) + (wrap64 ((wrap64 ((wrap64 (((Zf l0 (wrap64 (a1 + 1))).f1) - ((Zf l0 a1).f1))) * a2)) * (wrap64 (a2 - 1)))))) (wrap64 ((wrap64 (2 * (wrap64 (((Zf l0 (wrap64 (a1 + 1))).f0) - ((Zf l0 a1).f0))))) * 65536))).bind fun t254 => (some t254)) else (none)) else (none))) else (none)) else (none)) = some r := h;clear h
 by_cases c4 : 0 ≤ a1
 · rw [if_pos c4] at H
   have c4b0 : decide (0 ≤ a1) = true := decide_eq_true c4;clear c4
   by_cases c5 : a1 < (l0.length : Int)
   · rw [if_pos c5] at H
     have c5b0 : decide (a1 < (l0.length : Int)) = true := decide_eq_true c5;clear c5
     by_cases c6 : ((Zf l0 a1).f2) = 0
     · rw [if_pos c6] at H
       have c6b0 : (((Zf l0 a1).f2) == 0) = true := beq_iff_eq.mpr c6;have c6b1 : (((Zf l0 a1).f2) != 0) = false := bne_eq_false_iff_eq.mpr c6;clear c6;replace H := Option.bind_eq_some_iff.mp H;obtain ⟨t250,A70,H⟩ := H;replace H : (some t250) = some r := H;have A7 := Zd.mk A70;clear A70;obtain rfl := Option.some.inj H;have p248 : 0 ≤ (a1 : Int) := of_decide_eq_true (by first | (with_reducible assumption) | assumption);have q248 : a1 < (l0.length : Int) := of_decide_eq_true (by first | (with_reducible assumption) | assumption);obtain ⟨ad248,e248,hx248_0,hx248_1,hx248_2⟩ := Xo HR0.out a1 p248 q248
       cases e248
       replace p248 := eq_true p248;replace q248 := eq_true q248;have p249 : 0 ≤ (a1 : Int) := of_decide_eq_true (by first | (with_reducible assumption) | assumption);have q249 : a1 < (l0.length : Int) := of_decide_eq_true (by first | (with_reducible assumption) | assumption);obtain ⟨ad249,e249,hx249_0,hx249_1,hx249_2⟩ := Xo HR0.out a1 p249 q249
       obtain rfl : ad248 = ad249 := (by injection e249)
       replace p249 := eq_true p249;replace q249 := eq_true q249
       go_enter Try.func70,Try.ntmps70
       go_wp2_with (first | (go_at_call 45;(with_reducible refine (ZA.calls (wrap64 (a2 * ((Zf l0 a1).f1))) 65536 t250 _ A7.out).mono ?_);rintro e w' ⟨rfl,⟨nd,rfl⟩⟩;(try first | exact ⟨rfl,_,World.drewN_drewN _ _ _⟩ | exact ⟨rfl,_,Eq.trans (World.drewN_drewN _ _ _) (congrArg (World.drewN _) (Nat.add_assoc _ _ _))⟩)))
       repeat (go_quiet (first | (go_at_call 45;(with_reducible refine (ZA.calls (wrap64 (a2 * ((Zf l0 a1).f1))) 65536 t250 _ A7.out).mono ?_);rintro e w' ⟨rfl,⟨nd,rfl⟩⟩;(try first | exact ⟨rfl,_,World.drewN_drewN _ _ _⟩ | exact ⟨rfl,_,Eq.trans (World.drewN_drewN _ _ _) (congrArg (World.drewN _) (Nat.add_assoc _ _ _))⟩)));try go_wp2_with (first | (go_at_call 45;(with_reducible refine (ZA.calls (wrap64 (a2 * ((Zf l0 a1).f1))) 65536 t250 _ A7.out).mono ?_);rintro e w' ⟨rfl,⟨nd,rfl⟩⟩;(try first | exact ⟨rfl,_,World.drewN_drewN _ _ _⟩ | exact ⟨rfl,_,Eq.trans (World.drewN_drewN _ _ _) (congrArg (World.drewN _) (Nat.add_assoc _ _ _))⟩))))
       go_ret;exact ⟨by first | rfl | (simp;done) | (simp [*];done),by repeat (first | exact Drawn0.refl _ | apply Drawn0.step)⟩
     · rw [if_neg c6] at H
       have c6b0 : (((Zf l0 a1).f2) == 0) = false := beq_eq_false_iff_ne.mpr c6;have c6b1 : (((Zf l0 a1).f2) != 0) = true := bne_iff_ne.mpr c6
       obtain ⟨ji8,hji8⟩ : ∃ j_ : Int,(wrap64 (a1 + 1)) = j_ := ⟨_,rfl⟩
       replace H : (if 0 ≤ (ji8) then (if (ji8) < (l0.length : Int) then ((ZA.f (wrap64 ((wrap64 ((wrap64 ((wrap64 (2 * (wrap64 (((Zf l0 (ji8)).f0) - ((Zf l0 a1).f0))))) * a2)) * ((Zf l0 a1).f1))) + (wrap64 ((wrap64 ((wrap64 (((Zf l0 (ji8)).f1) - ((Zf l0 a1).f1))) * a2)) * (wrap64 (a2 - 1)))))) (wrap64 ((wrap64 (2 * (wrap64 (((Zf l0 (ji8)).f0) - ((Zf l0 a1).f0))))) * 65536))).bind fun t254 => (some t254)) else (none)) else (none)) = some r := by first | (rw [hji8] at H;exact H) | (simp only [hji8] at H ⊢;exact H)
       have hji8w : (IntKind.i64.wrap (a1 + 1)) = ji8 := (i64_w _).trans hji8
       by_cases c9 : 0 ≤ (ji8)
       · rw [if_pos c9] at H
         have c9b0 : decide (0 ≤ (ji8)) = true := decide_eq_true c9;clear c9
         by_cases c10 : (ji8) < (l0.length : Int)
         · rw [if_pos c10] at H
           have c10b0 : decide ((ji8) < (l0.length : Int)) = true := decide_eq_true c10;clear c10;replace H := Option.bind_eq_some_iff.mp H;obtain ⟨t254,A110,H⟩ := H;replace H : (some t254) = some r := H;have A11 := Zd.mk A110;clear A110;obtain rfl := Option.some.inj H;have p248 : 0 ≤ (a1 : Int) := of_decide_eq_true (by first | (with_reducible assumption) | assumption);have q248 : a1 < (l0.length : Int) := of_decide_eq_true (by first | (with_reducible assumption) | assumption);obtain ⟨ad248,e248,hx248_0,hx248_1,hx248_2⟩ := Xo HR0.out a1 p248 q248
           cases e248
           replace p248 := eq_true p248;replace q248 := eq_true q248;have p249 : 0 ≤ (a1 : Int) := of_decide_eq_true (by first | (with_reducible assumption) | assumption);have q249 : a1 < (l0.length : Int) := of_decide_eq_true (by first | (with_reducible assumption) | assumption);obtain ⟨ad249,e249,hx249_0,hx249_1,hx249_2⟩ := Xo HR0.out a1 p249 q249
           obtain rfl : ad248 = ad249 := (by injection e249)
           replace p249 := eq_true p249;replace q249 := eq_true q249;have p251 : 0 ≤ ((ji8) : Int) := of_decide_eq_true (by first | (with_reducible assumption) | assumption);have q251 : (ji8) < (l0.length : Int) := of_decide_eq_true (by first | (with_reducible assumption) | assumption);obtain ⟨ad251,e251,hx251_0,hx251_1,hx251_2⟩ := Xo HR0.out (ji8) p251 q251
           obtain rfl : ad248 = ad251 := (by injection e251)
           replace p251 := eq_true p251;replace q251 := eq_true q251;have p252 : 0 ≤ (a1 : Int) := of_decide_eq_true (by first | (with_reducible assumption) | assumption);have q252 : a1 < (l0.length : Int) := of_decide_eq_true (by first | (with_reducible assumption) | assumption);obtain ⟨ad252,e252,hx252_0,hx252_1,hx252_2⟩ := Xo HR0.out a1 p252 q252
           obtain rfl : ad248 = ad252 := (by injection e252)
           replace p252 := eq_true p252;replace q252 := eq_true q252;have p253 : 0 ≤ ((ji8) : Int) := of_decide_eq_true (by first | (with_reducible assumption) | assumption);have q253 : (ji8) < (l0.length : Int) := of_decide_eq_true (by first | (with_reducible assumption) | assumption);obtain ⟨ad253,e253,hx253_0,hx253_1,hx253_2⟩ := Xo HR0.out (ji8) p253 q253
           obtain rfl : ad248 = ad253 := (by injection e253)
           replace p253 := eq_true p253;replace q253 := eq_true q253
           go_enter Try.func70,Try.ntmps70
           go_wp2_with (first | (go_at_call 45;(with_reducible refine (ZA.calls (wrap64 ((wrap64 ((wrap64 ((wrap64 (2 * (wrap64 (((Zf l0 (ji8)).f0) - ((Zf l0 a1).f0))))) * a2)) * ((Zf l0 a1).f1))) + (wrap64 ((wrap64 ((wrap64 (((Zf l0 (ji8)).f1) - ((Zf l0 a1).f1))) * a2)) * (wrap64 (a2 - 1)))))) (wrap64 ((wrap64 (2 * (wrap64 (((Zf l0 (ji8)).f0) - ((Zf l0 a1).f0))))) * 65536)) t254 _ A11.out).mono ?_);rintro e w' ⟨rfl,⟨nd,rfl⟩⟩;(try first | exact ⟨rfl,_,World.drewN_drewN _ _ _⟩ | exact ⟨rfl,_,Eq.trans (World.drewN_drewN _ _ _) (congrArg (World.drewN _) (Nat.add_assoc _ _ _))⟩)))
           repeat (go_quiet (first | (go_at_call 45;(with_reducible refine (ZA.calls (wrap64 ((wrap64 ((wrap64 ((wrap64 (2 * (wrap64 (((Zf l0 (ji8)).f0) - ((Zf l0 a1).f0))))) * a2)) * ((Zf l0 a1).f1))) + (wrap64 ((wrap64 ((wrap64 (((Zf l0 (ji8)).f1) - ((Zf l0 a1).f1))) * a2)) * (wrap64 (a2 - 1)))))) (wrap64 ((wrap64 (2 * (wrap64 (((Zf l0 (ji8)).f0) - ((Zf l0 a1).f0))))) * 65536)) t254 _ A11.out).mono ?_);rintro e w' ⟨rfl,⟨nd,rfl⟩⟩;(try first | exact ⟨rfl,_,World.drewN_drewN _ _ _⟩ | exact ⟨rfl,_,Eq.trans (World.drewN_drewN _ _ _) (congrArg (World.drewN _) (Nat.add_assoc _ _ _))⟩)));try go_wp2_with (first | (go_at_call 45;(with_reducible refine (ZA.calls (wrap64 ((wrap64 ((wrap64 ((wrap64 (2 * (wrap64 (((Zf l0 (ji8)).f0) - ((Zf l0 a1).f0))))) * a2)) * ((Zf l0 a1).f1))) + (wrap64 ((wrap64 ((wrap64 (((Zf l0 (ji8)).f1) - ((Zf l0 a1).f1))) * a2)) * (wrap64 (a2 - 1)))))) (wrap64 ((wrap64 (2 * (wrap64 (((Zf l0 (ji8)).f0) - ((Zf l0 a1).f0))))) * 65536)) t254 _ A11.out).mono ?_);rintro e w' ⟨rfl,⟨nd,rfl⟩⟩;(try first | exact ⟨rfl,_,World.drewN_drewN _ _ _⟩ | exact ⟨rfl,_,Eq.trans (World.drewN_drewN _ _ _) (congrArg (World.drewN _) (Nat.add_assoc _ _ _))⟩))))
           go_ret;exact ⟨by first | rfl | (simp;done) | (simp only [← hji8] <;> (first | rfl | simp)) | (simp [*];done),by repeat (first | exact Drawn0.refl _ | apply Drawn0.step)⟩
         · rw [if_neg c10] at H
           exact absurd H (by simp)
       · rw [if_neg c9] at H
         exact absurd H (by simp)
   · rw [if_neg c5] at H
     exact absurd H (by simp)
 · rw [if_neg c4] at H
   exact absurd H (by simp)
end Go.Proofs.Ytomlfbmfdoallaa.PA

namespace Go.Proofs.Ytomlfbmfdoallaa.PA
open Go.RowKit Go.Proofs.YtomlfbmfdoallaaW.PrintWords Go.Proofs.YtomlfbmfdoallaaW.PrintLast Go.Proofs.YtomlfbmfdoallaaW.PrintMore
attribute [local go_sem] Xf Xe Xj Xk ZV ZU Xd Xc
set_option linter.unusedVariables false
set_option linter.unusedSimpArgs false
def Z4.l0 : Nat → List (S27) → Int → Int → Int → Option (Int)
 | 0,_,_,_,_ => none
 | k + 1,x0,x1,x2,x7 => if (wrap64 (x7 + 1)) < (x0.length : Int) then (if 0 ≤ (wrap64 (x7 + 1)) then (if ((Zf x0 (wrap64 (x7 + 1))).f0) ≤ x2 then (if 0 ≤ x7 then (if x7 < (x0.length : Int) then ((ZX.f x0 x7 (wrap64 (((Zf x0 (wrap64 (x7 + 1))).f0) - ((Zf x0 x7).f0)))).bind fun t258 => (Z4.l0 k x0 (wrap64 (x1 + t258)) x2 (wrap64 (x7 + 1)))) else (none)) else (none)) else ((ZD.f k x0 x2).bind fun t259 => (if 0 ≤ t259 then (if t259 < (x0.length : Int) then ((ZX.f x0 t259 (wrap64 (x2 - ((Zf x0 t259).f0)))).bind fun t261 => (some (wrap64 (x1 + t261)))) else (none)) else (none)))) else (none)) else ((ZD.f k x0 x2).bind fun t262 => (if 0 ≤ t262 then (if t262 < (x0.length : Int) then ((ZX.f x0 t262 (wrap64 (x2 - ((Zf x0 t262).f0)))).bind fun t264 => (some (wrap64 (x1 + t264)))) else (none)) else (none)))
def Z4.f (k : Nat) (l0 : List (S27)) (a1 : Int) (a2 : Int) : Option (Int) := Z4.l0 k l0 a1 a2 0
theorem Z4.Xm : ∀ k,(∀ y0 y1 y2 y3,LeO (Z4.l0 k y0 y1 y2 y3) (Z4.l0 (k + 1) y0 y1 y2 y3))
 | 0 => fun _ _ _ _ r h => by simp [Z4.l0] at h
 | k + 1 => by
  have ih0 := Z4.Xm k
  · intro y0 y1 y2 y3
    unfold Z4.l0
    repeat' first
    | (with_reducible exact ih0 _ _ _ _)
    | (with_reducible exact ZD.mono _ _ _)
    | (with_reducible exact LeO.refl _)
    | (with_reducible exact LeO.none _)
    | (with_reducible refine LeO.ite ?_ ?_)
    | (with_reducible refine LeO.bind ?_ (fun _ => ?_))
    | exact ih0 _ _ _ _
    | exact ZD.mono _ _ _
    | exact LeO.none _
    | refine LeO.ite ?_ ?_
    | refine LeO.bind ?_ (fun _ => ?_)
theorem Z4.mono : ∀ a0 a1 a2 k,LeO (Z4.f k a0 a1 a2) (Z4.f (k + 1) a0 a1 a2) := by
 intro a0 a1 a2 k;have ih0 := Z4.Xm k;unfold Z4.f
 repeat' first
  | (with_reducible exact ih0 _ _ _ _)
  | (with_reducible exact ZD.mono _ _ _)
  | (with_reducible exact LeO.refl _)
  | (with_reducible exact LeO.none _)
  | (with_reducible refine LeO.ite ?_ ?_)
  | (with_reducible refine LeO.bind ?_ (fun _ => ?_))
  | exact ih0 _ _ _ _
  | exact ZD.mono _ _ _
  | exact LeO.none _
  | refine LeO.ite ?_ ?_
  | refine LeO.bind ?_ (fun _ => ?_)
set_option maxHeartbeats 8000000 in
set_option maxRecDepth 100000 in
theorem Z4.calls (k : Nat) (A0 : Option Addr) (c0 : Nat) (l0 : List (S27)) (a1 : Int) (a2 : Int) (r : Int) (w : World) (hr0 : Kd.C k27 w A0 l0.length l0) (hc0 : l0.length ≤ c0) (h : Z4.f k l0 a1 a2 = some r) :
 Calls Try.prog 53 #[.slice A0 l0.length c0,.int .i64 a1,.int .i64 a2] w fun e w' => e = .returned (.int .i64 r) ∧ Drawn0 w w' := by
 have HR0 := Zd.mk hr0;have HC0 := Zd.mk hc0;clear hr0 hc0;have H : (Z4.l0 k l0 a1 a2 0) = some r := h;clear h;have H' := Zd.mk H;clear H
 go_enter Try.func53,Try.ntmps53
 go_wp2
 repeat (go_quiet (fail);try go_wp2)
 go_loopg [1,7] k (fun kq v1 v7 w' => ∃ (x1_1 : Int) (x7_1 : Int),v1 = .int .i64 x1_1 ∧ v7 = .int .i64 x7_1 ∧ Zd (Z4.l0 kq l0 x1_1 a2 x7_1 = some r) ∧ Zd (kq ≤ k) ∧ Drawn0 w w')
 case atStart => exact ⟨(a1),(0),(by first | rfl | (simp;done) | (simp [*];done)),(by first | rfl | (simp;done) | (simp [*];done)),H',⟨Nat.le_refl _⟩,by repeat (first | exact Drawn0.refl _ | apply Drawn0.step)⟩
 case round =>
  clear H'
  (try clear p2)
  obtain ⟨x1_1,x7_1,rfl,rfl,HA,HK1,⟨m1,rfl⟩⟩ := hrel
  cases gk with
  | zero => exact absurd HA.out (by simp [Z4.l0])
  | succ k1 =>
   have H := HA.out;clear HA;simp only [Z4.l0] at H
   by_cases c4 : (wrap64 (x7_1 + 1)) < (l0.length : Int)
   · rw [if_pos c4] at H
     have c4b0 : decide ((wrap64 (x7_1 + 1)) < (l0.length : Int)) = true := decide_eq_true c4;clear c4
     obtain ⟨ji5,hji5⟩ : ∃ j_ : Int,(wrap64 (x7_1 + 1)) = j_ := ⟨_,rfl⟩
     replace H : (if 0 ≤ (ji5) then (if ((Zf l0 (ji5)).f0) ≤ a2 then (if 0 ≤ x7_1 then (if x7_1 < (l0.length : Int) then ((ZX.f l0 x7_1 (wrap64 (((Zf l0 (ji5)).f0) - ((Zf l0 x7_1).f0)))).bind fun t258 => (Z4.l0 k1 l0 (wrap64 (x1_1 + t258)) a2 ji5)) else (none)) else (none)) else ((ZD.f k1 l0 a2).bind fun t259 => (if 0 ≤ t259 then (if t259 < (l0.length : Int) then ((ZX.f l0 t259 (wrap64 (a2 - ((Zf l0 t259).f0)))).bind fun t261 => (some (wrap64 (x1_1 + t261)))) else (none)) else (none)))) else (none)) = some r := by first | (rw [hji5] at H;exact H) | (simp only [hji5] at H ⊢;exact H)
     (try rw [hji5] at c4b0)
     have hji5w : (IntKind.i64.wrap (x7_1 + 1)) = ji5 := (i64_w _).trans hji5
     by_cases c6 : 0 ≤ (ji5)
     · rw [if_pos c6] at H
       have c6b0 : decide (0 ≤ (ji5)) = true := decide_eq_true c6;clear c6
       by_cases c7 : ((Zf l0 (ji5)).f0) ≤ a2
       · rw [if_pos c7] at H
         have c7b0 : decide (((Zf l0 (ji5)).f0) ≤ a2) = true := decide_eq_true c7;clear c7
         by_cases c8 : 0 ≤ x7_1
         · rw [if_pos c8] at H
           have c8b0 : decide (0 ≤ x7_1) = true := decide_eq_true c8;clear c8
           by_cases c9 : x7_1 < (l0.length : Int)
           · rw [if_pos c9] at H
             have c9b0 : decide (x7_1 < (l0.length : Int)) = true := decide_eq_true c9;clear c9;replace H := Option.bind_eq_some_iff.mp H;obtain ⟨t258,A100,H⟩ := H;replace H : (Z4.l0 k1 l0 (wrap64 (x1_1 + t258)) a2 ji5) = some r := H;have A10 := Zd.mk A100;clear A100;have H' := Zd.mk H;clear H;have p255 : 0 ≤ ((ji5) : Int) := of_decide_eq_true (by first | (with_reducible assumption) | assumption);have q255 : (ji5) < (l0.length : Int) := of_decide_eq_true (by first | (with_reducible assumption) | assumption);obtain ⟨ad255,e255,hx255_0,hx255_1,hx255_2⟩ := Xo HR0.out (ji5) p255 q255
             cases e255
             replace p255 := eq_true p255;replace q255 := eq_true q255;have p256 : 0 ≤ ((ji5) : Int) := of_decide_eq_true (by first | (with_reducible assumption) | assumption);have q256 : (ji5) < (l0.length : Int) := of_decide_eq_true (by first | (with_reducible assumption) | assumption);obtain ⟨ad256,e256,hx256_0,hx256_1,hx256_2⟩ := Xo HR0.out (ji5) p256 q256
             obtain rfl : ad255 = ad256 := (by injection e256)
             replace p256 := eq_true p256;replace q256 := eq_true q256;have p257 : 0 ≤ (x7_1 : Int) := of_decide_eq_true (by first | (with_reducible assumption) | assumption);have q257 : x7_1 < (l0.length : Int) := of_decide_eq_true (by first | (with_reducible assumption) | assumption);obtain ⟨ad257,e257,hx257_0,hx257_1,hx257_2⟩ := Xo HR0.out x7_1 p257 q257
             obtain rfl : ad255 = ad257 := (by injection e257)
             replace p257 := eq_true p257;replace q257 := eq_true q257
             go_wp2_with (first | (go_at_call 70;(with_reducible refine (ZX.calls _ _ l0 x7_1 (wrap64 (((Zf l0 (ji5)).f0) - ((Zf l0 x7_1).f0))) t258 _ ?side1 ?side2 A10.out).mono ?_);(case side1 => repeat (first | exact HR0.out | (with_reducible refine Kd.Z8 ?_ _) | (with_reducible refine Kd.ZB ?_ _) | (with_reducible refine Kd.ZI ?_)));(case side2 => exact HC0.out);rintro e w' ⟨rfl,⟨nd,rfl⟩⟩;(try first | exact ⟨rfl,_,World.drewN_drewN _ _ _⟩ | exact ⟨rfl,_,Eq.trans (World.drewN_drewN _ _ _) (congrArg (World.drewN _) (Nat.add_assoc _ _ _))⟩)))
             repeat (go_quiet (first | (go_at_call 70;(with_reducible refine (ZX.calls _ _ l0 x7_1 (wrap64 (((Zf l0 (ji5)).f0) - ((Zf l0 x7_1).f0))) t258 _ ?side1 ?side2 A10.out).mono ?_);(case side1 => repeat (first | exact HR0.out | (with_reducible refine Kd.Z8 ?_ _) | (with_reducible refine Kd.ZB ?_ _) | (with_reducible refine Kd.ZI ?_)));(case side2 => exact HC0.out);rintro e w' ⟨rfl,⟨nd,rfl⟩⟩;(try first | exact ⟨rfl,_,World.drewN_drewN _ _ _⟩ | exact ⟨rfl,_,Eq.trans (World.drewN_drewN _ _ _) (congrArg (World.drewN _) (Nat.add_assoc _ _ _))⟩)));try go_wp2_with (first | (go_at_call 70;(with_reducible refine (ZX.calls _ _ l0 x7_1 (wrap64 (((Zf l0 (ji5)).f0) - ((Zf l0 x7_1).f0))) t258 _ ?side1 ?side2 A10.out).mono ?_);(case side1 => repeat (first | exact HR0.out | (with_reducible refine Kd.Z8 ?_ _) | (with_reducible refine Kd.ZB ?_ _) | (with_reducible refine Kd.ZI ?_)));(case side2 => exact HC0.out);rintro e w' ⟨rfl,⟨nd,rfl⟩⟩;(try first | exact ⟨rfl,_,World.drewN_drewN _ _ _⟩ | exact ⟨rfl,_,Eq.trans (World.drewN_drewN _ _ _) (congrArg (World.drewN _) (Nat.add_assoc _ _ _))⟩))))
             go_roundg k1
             case measure => have := HK1.out;omega
             case rel => exact ⟨(wrap64 (x1_1 + t258)),(ji5),(by first | rfl | (simp;done) | (simp [*];done)),(by first | rfl | (simp;done) | (simp only [← hji5] <;> (first | rfl | simp)) | (simp [*];done)),H',⟨by have := HK1.out;omega⟩,by repeat (first | exact Drawn0.refl _ | apply Drawn0.step)⟩
           · rw [if_neg c9] at H
             exact absurd H (by simp)
         · rw [if_neg c8] at H
           exact absurd H (by simp)
       · rw [if_neg c7] at H
         have c7b0 : decide (((Zf l0 (ji5)).f0) ≤ a2) = false := decide_eq_false c7;clear c7;replace H := Option.bind_eq_some_iff.mp H;obtain ⟨t259,A110,H⟩ := H;replace H : (if 0 ≤ t259 then (if t259 < (l0.length : Int) then ((ZX.f l0 t259 (wrap64 (a2 - ((Zf l0 t259).f0)))).bind fun t261 => (some (wrap64 (x1_1 + t261)))) else (none)) else (none)) = some r := H;have A11 := Zd.mk A110;clear A110
         by_cases c12 : 0 ≤ t259
         · rw [if_pos c12] at H
           have c12b0 : decide (0 ≤ t259) = true := decide_eq_true c12;clear c12
           by_cases c13 : t259 < (l0.length : Int)
           · rw [if_pos c13] at H
             have c13b0 : decide (t259 < (l0.length : Int)) = true := decide_eq_true c13;clear c13;replace H := Option.bind_eq_some_iff.mp H;obtain ⟨t261,A140,H⟩ := H;replace H : (some (wrap64 (x1_1 + t261))) = some r := H;have A14 := Zd.mk A140;clear A140;obtain rfl := Option.some.inj H;have p255 : 0 ≤ ((ji5) : Int) := of_decide_eq_true (by first | (with_reducible assumption) | assumption);have q255 : (ji5) < (l0.length : Int) := of_decide_eq_true (by first | (with_reducible assumption) | assumption);obtain ⟨ad255,e255,hx255_0,hx255_1,hx255_2⟩ := Xo HR0.out (ji5) p255 q255
             cases e255
             replace p255 := eq_true p255;replace q255 := eq_true q255
             go_wp2_with (first | (go_at_call 56;(with_reducible refine (ZD.calls k1 _ _ l0 a2 t259 _ ?side1 ?side2 A11.out).mono ?_);(case side1 => repeat (first | exact HR0.out | (with_reducible refine Kd.Z8 ?_ _) | (with_reducible refine Kd.ZB ?_ _) | (with_reducible refine Kd.ZI ?_)));(case side2 => exact HC0.out);rintro e w' ⟨rfl,⟨nd,rfl⟩⟩;(try first | exact ⟨rfl,_,World.drewN_drewN _ _ _⟩ | exact ⟨rfl,_,Eq.trans (World.drewN_drewN _ _ _) (congrArg (World.drewN _) (Nat.add_assoc _ _ _))⟩);have p260 : 0 ≤ (t259 : Int) := of_decide_eq_true (by first | (with_reducible assumption) | assumption);have q260 : t259 < (l0.length : Int) := of_decide_eq_true (by first | (with_reducible assumption) | assumption);obtain ⟨ad260,e260,hx260_0,hx260_1,hx260_2⟩ := Xo HR0.out t259 p260 q260;obtain rfl : ad255 = ad260 := (by injection e260);replace p260 := eq_true p260;replace q260 := eq_true q260) | (go_at_call 70;(with_reducible refine (ZX.calls _ _ l0 t259 (wrap64 (a2 - ((Zf l0 t259).f0))) t261 _ ?side1 ?side2 A14.out).mono ?_);(case side1 => repeat (first | exact HR0.out | (with_reducible refine Kd.Z8 ?_ _) | (with_reducible refine Kd.ZB ?_ _) | (with_reducible refine Kd.ZI ?_)));(case side2 => exact HC0.out);rintro e w' ⟨rfl,⟨nd,rfl⟩⟩;(try first | exact ⟨rfl,_,World.drewN_drewN _ _ _⟩ | exact ⟨rfl,_,Eq.trans (World.drewN_drewN _ _ _) (congrArg (World.drewN _) (Nat.add_assoc _ _ _))⟩)))
             repeat (go_quiet (first | (go_at_call 56;(with_reducible refine (ZD.calls k1 _ _ l0 a2 t259 _ ?side1 ?side2 A11.out).mono ?_);(case side1 => repeat (first | exact HR0.out | (with_reducible refine Kd.Z8 ?_ _) | (with_reducible refine Kd.ZB ?_ _) | (with_reducible refine Kd.ZI ?_)));(case side2 => exact HC0.out);rintro e w' ⟨rfl,⟨nd,rfl⟩⟩;(try first | exact ⟨rfl,_,World.drewN_drewN _ _ _⟩ | exact ⟨rfl,_,Eq.trans (World.drewN_drewN _ _ _) (congrArg (World.drewN _) (Nat.add_assoc _ _ _))⟩);have p260 : 0 ≤ (t259 : Int) := of_decide_eq_true (by first | (with_reducible assumption) | assumption);have q260 : t259 < (l0.length : Int) := of_decide_eq_true (by first | (with_reducible assumption) | assumption);obtain ⟨ad260,e260,hx260_0,hx260_1,hx260_2⟩ := Xo HR0.out t259 p260 q260;obtain rfl : ad255 = ad260 := (by injection e260);replace p260 := eq_true p260;replace q260 := eq_true q260) | (go_at_call 70;(with_reducible refine (ZX.calls _ _ l0 t259 (wrap64 (a2 - ((Zf l0 t259).f0))) t261 _ ?side1 ?side2 A14.out).mono ?_);(case side1 => repeat (first | exact HR0.out | (with_reducible refine Kd.Z8 ?_ _) | (with_reducible refine Kd.ZB ?_ _) | (with_reducible refine Kd.ZI ?_)));(case side2 => exact HC0.out);rintro e w' ⟨rfl,⟨nd,rfl⟩⟩;(try first | exact ⟨rfl,_,World.drewN_drewN _ _ _⟩ | exact ⟨rfl,_,Eq.trans (World.drewN_drewN _ _ _) (congrArg (World.drewN _) (Nat.add_assoc _ _ _))⟩)));try go_wp2_with (first | (go_at_call 56;(with_reducible refine (ZD.calls k1 _ _ l0 a2 t259 _ ?side1 ?side2 A11.out).mono ?_);(case side1 => repeat (first | exact HR0.out | (with_reducible refine Kd.Z8 ?_ _) | (with_reducible refine Kd.ZB ?_ _) | (with_reducible refine Kd.ZI ?_)));(case side2 => exact HC0.out);rintro e w' ⟨rfl,⟨nd,rfl⟩⟩;(try first | exact ⟨rfl,_,World.drewN_drewN _ _ _⟩ | exact ⟨rfl,_,Eq.trans (World.drewN_drewN _ _ _) (congrArg (World.drewN _) (Nat.add_assoc _ _ _))⟩);have p260 : 0 ≤ (t259 : Int) := of_decide_eq_true (by first | (with_reducible assumption) | assumption);have q260 : t259 < (l0.length : Int) := of_decide_eq_true (by first | (with_reducible assumption) | assumption);obtain ⟨ad260,e260,hx260_0,hx260_1,hx260_2⟩ := Xo HR0.out t259 p260 q260;obtain rfl : ad255 = ad260 := (by injection e260);replace p260 := eq_true p260;replace q260 := eq_true q260) | (go_at_call 70;(with_reducible refine (ZX.calls _ _ l0 t259 (wrap64 (a2 - ((Zf l0 t259).f0))) t261 _ ?side1 ?side2 A14.out).mono ?_);(case side1 => repeat (first | exact HR0.out | (with_reducible refine Kd.Z8 ?_ _) | (with_reducible refine Kd.ZB ?_ _) | (with_reducible refine Kd.ZI ?_)));(case side2 => exact HC0.out);rintro e w' ⟨rfl,⟨nd,rfl⟩⟩;(try first | exact ⟨rfl,_,World.drewN_drewN _ _ _⟩ | exact ⟨rfl,_,Eq.trans (World.drewN_drewN _ _ _) (congrArg (World.drewN _) (Nat.add_assoc _ _ _))⟩))))
             go_ret;exact ⟨by first | rfl | (simp;done) | (simp only [← hji5] <;> (first | rfl | simp)) | (simp [*];done),by repeat (first | exact Drawn0.refl _ | apply Drawn0.step)⟩
           · rw [if_neg c13] at H
             exact absurd H (by simp)
         · rw [if_neg c12] at H
           exact absurd H (by simp)
     · rw [if_neg c6] at H
       exact absurd H (by simp)
   · rw [if_neg c4] at H
     have c4b0 : decide ((wrap64 (x7_1 + 1)) < (l0.length : Int)) = false := decide_eq_false c4;clear c4;replace H := Option.bind_eq_some_iff.mp H;obtain ⟨t262,A150,H⟩ := H;replace H : (if 0 ≤ t262 then (if t262 < (l0.length : Int) then ((ZX.f l0 t262 (wrap64 (a2 - ((Zf l0 t262).f0)))).bind fun t264 => (some (wrap64 (x1_1 + t264)))) else (none)) else (none)) = some r := H;have A15 := Zd.mk A150;clear A150
     by_cases c16 : 0 ≤ t262
     · rw [if_pos c16] at H
       have c16b0 : decide (0 ≤ t262) = true := decide_eq_true c16;clear c16
       by_cases c17 : t262 < (l0.length : Int)
       · rw [if_pos c17] at H
         have c17b0 : decide (t262 < (l0.length : Int)) = true := decide_eq_true c17;clear c17;replace H := Option.bind_eq_some_iff.mp H;obtain ⟨t264,A180,H⟩ := H;replace H : (some (wrap64 (x1_1 + t264))) = some r := H;have A18 := Zd.mk A180;clear A180;obtain rfl := Option.some.inj H
         go_wp2_with (first | (go_at_call 56;(with_reducible refine (ZD.calls k1 _ _ l0 a2 t262 _ ?side1 ?side2 A15.out).mono ?_);(case side1 => repeat (first | exact HR0.out | (with_reducible refine Kd.Z8 ?_ _) | (with_reducible refine Kd.ZB ?_ _) | (with_reducible refine Kd.ZI ?_)));(case side2 => exact HC0.out);rintro e w' ⟨rfl,⟨nd,rfl⟩⟩;(try first | exact ⟨rfl,_,World.drewN_drewN _ _ _⟩ | exact ⟨rfl,_,Eq.trans (World.drewN_drewN _ _ _) (congrArg (World.drewN _) (Nat.add_assoc _ _ _))⟩);have p263 : 0 ≤ (t262 : Int) := of_decide_eq_true (by first | (with_reducible assumption) | assumption);have q263 : t262 < (l0.length : Int) := of_decide_eq_true (by first | (with_reducible assumption) | assumption);obtain ⟨ad263,e263,hx263_0,hx263_1,hx263_2⟩ := Xo HR0.out t262 p263 q263;cases e263;replace p263 := eq_true p263;replace q263 := eq_true q263) | (go_at_call 70;(with_reducible refine (ZX.calls _ _ l0 t262 (wrap64 (a2 - ((Zf l0 t262).f0))) t264 _ ?side1 ?side2 A18.out).mono ?_);(case side1 => repeat (first | exact HR0.out | (with_reducible refine Kd.Z8 ?_ _) | (with_reducible refine Kd.ZB ?_ _) | (with_reducible refine Kd.ZI ?_)));(case side2 => exact HC0.out);rintro e w' ⟨rfl,⟨nd,rfl⟩⟩;(try first | exact ⟨rfl,_,World.drewN_drewN _ _ _⟩ | exact ⟨rfl,_,Eq.trans (World.drewN_drewN _ _ _) (congrArg (World.drewN _) (Nat.add_assoc _ _ _))⟩)))
         repeat (go_quiet (first | (go_at_call 56;(with_reducible refine (ZD.calls k1 _ _ l0 a2 t262 _ ?side1 ?side2 A15.out).mono ?_);(case side1 => repeat (first | exact HR0.out | (with_reducible refine Kd.Z8 ?_ _) | (with_reducible refine Kd.ZB ?_ _) | (with_reducible refine Kd.ZI ?_)));(case side2 => exact HC0.out);rintro e w' ⟨rfl,⟨nd,rfl⟩⟩;(try first | exact ⟨rfl,_,World.drewN_drewN _ _ _⟩ | exact ⟨rfl,_,Eq.trans (World.drewN_drewN _ _ _) (congrArg (World.drewN _) (Nat.add_assoc _ _ _))⟩);have p263 : 0 ≤ (t262 : Int) := of_decide_eq_true (by first | (with_reducible assumption) | assumption);have q263 : t262 < (l0.length : Int) := of_decide_eq_true (by first | (with_reducible assumption) | assumption);obtain ⟨ad263,e263,hx263_0,hx263_1,hx263_2⟩ := Xo HR0.out t262 p263 q263;cases e263;replace p263 := eq_true p263;replace q263 := eq_true q263) | (go_at_call 70;(with_reducible refine (ZX.calls _ _ l0 t262 (wrap64 (a2 - ((Zf l0 t262).f0))) t264 _ ?side1 ?side2 A18.out).mono ?_);(case side1 => repeat (first | exact HR0.out | (with_reducible refine Kd.Z8 ?_ _) | (with_reducible refine Kd.ZB ?_ _) | (with_reducible refine Kd.ZI ?_)));(case side2 => exact HC0.out);rintro e w' ⟨rfl,⟨nd,rfl⟩⟩;(try first | exact ⟨rfl,_,World.drewN_drewN _ _ _⟩ | exact ⟨rfl,_,Eq.trans (World.drewN_drewN _ _ _) (congrArg (World.drewN _) (Nat.add_assoc _ _ _))⟩)));try go_wp2_with (first | (go_at_call 56;(with_reducible refine (ZD.calls k1 _ _ l0 a2 t262 _ ?side1 ?side2 A15.out).mono ?_);(case side1 => repeat (first | exact HR0.out | (with_reducible refine Kd.Z8 ?_ _) | (with_reducible refine Kd.ZB ?_ _) | (with_reducible refine Kd.ZI ?_)));(case side2 => exact HC0.out);rintro e w' ⟨rfl,⟨nd,rfl⟩⟩;(try first | exact ⟨rfl,_,World.drewN_drewN _ _ _⟩ | exact ⟨rfl,_,Eq.trans (World.drewN_drewN _ _ _) (congrArg (World.drewN _) (Nat.add_assoc _ _ _))⟩);have p263 : 0 ≤ (t262 : Int) := of_decide_eq_true (by first | (with_reducible assumption) | assumption);have q263 : t262 < (l0.length : Int) := of_decide_eq_true (by first | (with_reducible assumption) | assumption);obtain ⟨ad263,e263,hx263_0,hx263_1,hx263_2⟩ := Xo HR0.out t262 p263 q263;cases e263;replace p263 := eq_true p263;replace q263 := eq_true q263) | (go_at_call 70;(with_reducible refine (ZX.calls _ _ l0 t262 (wrap64 (a2 - ((Zf l0 t262).f0))) t264 _ ?side1 ?side2 A18.out).mono ?_);(case side1 => repeat (first | exact HR0.out | (with_reducible refine Kd.Z8 ?_ _) | (with_reducible refine Kd.ZB ?_ _) | (with_reducible refine Kd.ZI ?_)));(case side2 => exact HC0.out);rintro e w' ⟨rfl,⟨nd,rfl⟩⟩;(try first | exact ⟨rfl,_,World.drewN_drewN _ _ _⟩ | exact ⟨rfl,_,Eq.trans (World.drewN_drewN _ _ _) (congrArg (World.drewN _) (Nat.add_assoc _ _ _))⟩))))
         go_ret;exact ⟨by first | rfl | (simp;done) | (simp [*];done),by repeat (first | exact Drawn0.refl _ | apply Drawn0.step)⟩
       · rw [if_neg c17] at H
         exact absurd H (by simp)
     · rw [if_neg c16] at H
       exact absurd H (by simp)
end Go.Proofs.Ytomlfbmfdoallaa.PA

namespace Go.Proofs.Ytomlfbmfdoallaa.PA
open Go.RowKit Go.Proofs.YtomlfbmfdoallaaW.PrintWords Go.Proofs.YtomlfbmfdoallaaW.PrintLast Go.Proofs.YtomlfbmfdoallaaW.PrintMore
attribute [local go_sem] Xf Xe Xj Xk ZV ZU Xd Xc
set_option linter.unusedVariables false
set_option linter.unusedSimpArgs false
def Z3.l0 : Nat → List (S27) → Int → Int → Int → Int → Option (Int)
 | 0,_,_,_,_,_ => none
 | k + 1,x0,x1,x2,x7,x8 => if x7 < x8 then ((Z4.f k x0 x1 (wrap64 (Int.tdiv (wrap64 ((wrap64 (x7 + x8)) + 1)) 2))).bind fun t274 => (if t274 ≤ x2 then (Z3.l0 k x0 x1 x2 (wrap64 (Int.tdiv (wrap64 ((wrap64 (x7 + x8)) + 1)) 2)) x8) else (Z3.l0 k x0 x1 x2 x7 (wrap64 ((wrap64 (Int.tdiv (wrap64 ((wrap64 (x7 + x8)) + 1)) 2)) - 1))))) else (some x7)
def Z3.f (k : Nat) (l0 : List (S27)) (a1 : Int) (a2 : Int) : Option (Int) := Z3.l0 k l0 a1 a2 0 1000000000
theorem Z3.Xm : ∀ k,(∀ y0 y1 y2 y3 y4,LeO (Z3.l0 k y0 y1 y2 y3 y4) (Z3.l0 (k + 1) y0 y1 y2 y3 y4))
 | 0 => fun _ _ _ _ _ r h => by simp [Z3.l0] at h
 | k + 1 => by
  have ih0 := Z3.Xm k
  · intro y0 y1 y2 y3 y4
    unfold Z3.l0
    repeat' first
    | (with_reducible exact ih0 _ _ _ _ _)
    | (with_reducible exact Z4.mono _ _ _ _)
    | (with_reducible exact LeO.refl _)
    | (with_reducible exact LeO.none _)
    | (with_reducible refine LeO.ite ?_ ?_)
    | (with_reducible refine LeO.bind ?_ (fun _ => ?_))
    | exact ih0 _ _ _ _ _
    | exact Z4.mono _ _ _ _
    | exact LeO.none _
    | refine LeO.ite ?_ ?_
    | refine LeO.bind ?_ (fun _ => ?_)
theorem Z3.mono : ∀ a0 a1 a2 k,LeO (Z3.f k a0 a1 a2) (Z3.f (k + 1) a0 a1 a2) := by
 intro a0 a1 a2 k;have ih0 := Z3.Xm k;unfold Z3.f
 repeat' first
  | (with_reducible exact ih0 _ _ _ _ _)
  | (with_reducible exact Z4.mono _ _ _ _)
  | (with_reducible exact LeO.refl _)
  | (with_reducible exact LeO.none _)
  | (with_reducible refine LeO.ite ?_ ?_)
  | (with_reducible refine LeO.bind ?_ (fun _ => ?_))
  | exact ih0 _ _ _ _ _
  | exact Z4.mono _ _ _ _
  | exact LeO.none _
  | refine LeO.ite ?_ ?_
  | refine LeO.bind ?_ (fun _ => ?_)
set_option maxHeartbeats 8000000 in
set_option maxRecDepth 100000 in
theorem Z3.calls (k : Nat) (A0 : Option Addr) (c0 : Nat) (l0 : List (S27)) (a1 : Int) (a2 : Int) (r : Int) (w : World) (hr0 : Kd.C k27 w A0 l0.length l0) (hc0 : l0.length ≤ c0) (h : Z3.f k l0 a1 a2 = some r) :
 Calls Try.prog 55 #[.slice A0 l0.length c0,.int .i64 a1,.int .i64 a2] w fun e w' => e = .returned (.int .i64 r) ∧ Drawn0 w w' := by
 have HR0 := Zd.mk hr0;have HC0 := Zd.mk hc0;clear hr0 hc0;have H : (Z3.l0 k l0 a1 a2 0 1000000000) = some r := h;clear h;have H' := Zd.mk H;clear H
 go_enter Try.func55,Try.ntmps55
 go_wp2
 go_loopg [7,8] k (fun kq v7 v8 w' => ∃ (x7_1 : Int) (x8_1 : Int),v7 = .int .i64 x7_1 ∧ v8 = .int .i64 x8_1 ∧ Zd (Z3.l0 kq l0 a1 a2 x7_1 x8_1 = some r) ∧ Zd (kq ≤ k) ∧ Drawn0 w w')
 case atStart => exact ⟨(0),(1000000000),(by first | rfl | (simp;done) | (simp [*];done)),(by first | rfl | (simp;done) | (simp [*];done)),H',⟨Nat.le_refl _⟩,by repeat (first | exact Drawn0.refl _ | apply Drawn0.step)⟩
 case round =>
  clear H'
  (try clear p2)
  obtain ⟨x7_1,x8_1,rfl,rfl,HA,HK1,⟨m1,rfl⟩⟩ := hrel
  cases gk with
  | zero => exact absurd HA.out (by simp [Z3.l0])
  | succ k1 =>
   have H := HA.out;clear HA;simp only [Z3.l0] at H
   by_cases c4 : x7_1 < x8_1
   · rw [if_pos c4] at H
     have c4b0 : decide (x7_1 < x8_1) = true := decide_eq_true c4;clear c4;replace H := Option.bind_eq_some_iff.mp H;obtain ⟨t274,A50,H⟩ := H;replace H : (if t274 ≤ a2 then (Z3.l0 k1 l0 a1 a2 (wrap64 (Int.tdiv (wrap64 ((wrap64 (x7_1 + x8_1)) + 1)) 2)) x8_1) else (Z3.l0 k1 l0 a1 a2 x7_1 (wrap64 ((wrap64 (Int.tdiv (wrap64 ((wrap64 (x7_1 + x8_1)) + 1)) 2)) - 1)))) = some r := H;have A5 := Zd.mk A50;clear A50
     by_cases c6 : t274 ≤ a2
     · rw [if_pos c6] at H
       have c6b0 : decide (t274 ≤ a2) = true := decide_eq_true c6;clear c6;have H' := Zd.mk H;clear H
       go_wp2_with (first | ((with_reducible refine Z2 (f := 53) rfl ?_);refine ZP (some 21) rfl rfl Try.func53 (by kernel_rfl) rfl #[.slice A0 l0.length c0,.int .i64 a1,.int .i64 (wrap64 (Int.tdiv (wrap64 ((wrap64 (x7_1 + x8_1)) + 1)) 2))] rfl (by (try simp only [List.map_toArray,List.map_cons,List.map_nil]);first | done | rfl | (simp only [List.length_drop,List.length_take];rfl)) ?_;(with_reducible refine (Z4.calls k1 _ _ l0 a1 (wrap64 (Int.tdiv (wrap64 ((wrap64 (x7_1 + x8_1)) + 1)) 2)) t274 _ ?side1 ?side2 A5.out).mono ?_);(case side1 => repeat (first | exact HR0.out | (with_reducible refine Kd.Z8 ?_ _) | (with_reducible refine Kd.ZB ?_ _) | (with_reducible refine Kd.ZI ?_)));(case side2 => exact HC0.out);rintro e w' ⟨rfl,⟨nd,rfl⟩⟩;refine ⟨_,rfl,?_⟩))
       go_roundg k1
       case measure => have := HK1.out;omega
       case rel => exact ⟨(wrap64 (Int.tdiv (wrap64 ((wrap64 (x7_1 + x8_1)) + 1)) 2)),(x8_1),(by first | rfl | (simp;done) | (simp [*];done)),(by first | rfl | (simp;done) | (simp [*];done)),H',⟨by have := HK1.out;omega⟩,by repeat (first | exact Drawn0.refl _ | apply Drawn0.step)⟩
     · rw [if_neg c6] at H
       have c6b0 : decide (t274 ≤ a2) = false := decide_eq_false c6;clear c6;have H' := Zd.mk H;clear H
       go_wp2_with (first | ((with_reducible refine Z2 (f := 53) rfl ?_);refine ZP (some 21) rfl rfl Try.func53 (by kernel_rfl) rfl #[.slice A0 l0.length c0,.int .i64 a1,.int .i64 (wrap64 (Int.tdiv (wrap64 ((wrap64 (x7_1 + x8_1)) + 1)) 2))] rfl (by (try simp only [List.map_toArray,List.map_cons,List.map_nil]);first | done | rfl | (simp only [List.length_drop,List.length_take];rfl)) ?_;(with_reducible refine (Z4.calls k1 _ _ l0 a1 (wrap64 (Int.tdiv (wrap64 ((wrap64 (x7_1 + x8_1)) + 1)) 2)) t274 _ ?side1 ?side2 A5.out).mono ?_);(case side1 => repeat (first | exact HR0.out | (with_reducible refine Kd.Z8 ?_ _) | (with_reducible refine Kd.ZB ?_ _) | (with_reducible refine Kd.ZI ?_)));(case side2 => exact HC0.out);rintro e w' ⟨rfl,⟨nd,rfl⟩⟩;refine ⟨_,rfl,?_⟩))
       go_roundg k1
       case measure => have := HK1.out;omega
       case rel => exact ⟨(x7_1),(wrap64 ((wrap64 (Int.tdiv (wrap64 ((wrap64 (x7_1 + x8_1)) + 1)) 2)) - 1)),(by first | rfl | (simp;done) | (simp [*];done)),(by first | rfl | (simp;done) | (simp [*];done)),H',⟨by have := HK1.out;omega⟩,by repeat (first | exact Drawn0.refl _ | apply Drawn0.step)⟩
   · rw [if_neg c4] at H
     have c4b0 : decide (x7_1 < x8_1) = false := decide_eq_false c4;clear c4;obtain rfl := Option.some.inj H
     go_wp2
     go_ret;exact ⟨by first | rfl | (simp;done) | (simp [*];done),by repeat (first | exact Drawn0.refl _ | apply Drawn0.step)⟩
end Go.Proofs.Ytomlfbmfdoallaa.PA



namespace Go.Proofs.Ytomlfbmfdoallaa.PA
open Go.RowKit Go.Proofs.YtomlfbmfdoallaaW.PrintWords Go.Proofs.YtomlfbmfdoallaaW.PrintLast Go.Proofs.YtomlfbmfdoallaaW.PrintMore
attribute [local go_sem] Xf Xe Xj Xk ZV ZU Xd Xc
set_option linter.unusedVariables false
set_option linter.unusedSimpArgs false
def ZT.f (k : Nat) (l0 : List (S27)) (a1 : Int) : Option (Int × Int) := (Zi.f k l0).bind fun t278 => (if t278 = true then ((Zx.f a1).bind fun t279 => (if t279 = true then ((ZD.f k l0 a1).bind fun t280 => (if 0 ≤ t280 then (if t280 < (l0.length : Int) then (if ((Zf l0 t280).f2) = 0 then (some ((Zf l0 t280).f1,0)) else (if 0 ≤ (wrap64 (t280 + 1)) then (if (wrap64 (t280 + 1)) < (l0.length : Int) then ((ZA.f (wrap64 ((wrap64 (((Zf l0 t280).f1) * (wrap64 ((wrap64 (((Zf l0 (wrap64 (t280 + 1))).f0) - ((Zf l0 t280).f0))) - (wrap64 (a1 - ((Zf l0 t280).f0))))))) + (wrap64 (((Zf l0 (wrap64 (t280 + 1))).f1) * (wrap64 (a1 - ((Zf l0 t280).f0))))))) (wrap64 (((Zf l0 (wrap64 (t280 + 1))).f0) - ((Zf l0 t280).f0)))).bind fun t288 => (some (t288,0))) else (none)) else (none))) else (none)) else (none))) else (some (0,7)))) else (some (0,1)))
theorem ZT.mono : ∀ a0 a1 k,LeO (ZT.f k a0 a1) (ZT.f (k + 1) a0 a1) := by
 intro a0 a1 k;unfold ZT.f
 repeat' first
  | (with_reducible exact Zi.mono _ _)
  | (with_reducible exact ZD.mono _ _ _)
  | (with_reducible exact LeO.refl _)
  | (with_reducible exact LeO.none _)
  | (with_reducible refine LeO.ite ?_ ?_)
  | (with_reducible refine LeO.bind ?_ (fun _ => ?_))
  | exact Zi.mono _ _
  | exact ZD.mono _ _ _
  | exact LeO.none _
  | refine LeO.ite ?_ ?_
  | refine LeO.bind ?_ (fun _ => ?_)
set_option maxHeartbeats 8000000 in
set_option maxRecDepth 100000 in
theorem ZT.calls (k : Nat) (A0 : Option Addr) (c0 : Nat) (l0 : List (S27)) (a1 : Int) (r1 : Int) (r2 : Int) (w : World) (hr0 : Kd.C k27 w A0 l0.length l0) (hc0 : l0.length ≤ c0) (h : ZT.f k l0 a1 = some (r1,r2)) :
 Calls Try.prog 28 #[.slice A0 l0.length c0,.int .i64 a1] w fun e w' => e = .returned (.tuple #[.int .i64 r1,.int .i64 r2]) ∧ Below w.heap.size w w' := by
 have HR0 := Zd.mk hr0;have HC0 := Zd.mk hc0;clear hr0 hc0;have HB := Zd.mk (Below.refl w.heap.size w);have H : ((Zi.f k l0).bind fun t278 => (if t278 = true then ((Zx.f a1).bind fun t279 => (if t279 = true then ((ZD.f k l0 a1).bind fun t280 => (if 0 ≤ t280 then (if t280 < (l0.length : Int) then (if ((Zf l0 t280).f2) = 0 then (some ((Zf l0 t280).f1,0)) else (if 0 ≤ (wrap64 (t280 + 1)) then (if (wrap64 (t280 + 1)) < (l0.length : Int) then ((ZA.f (wrap64 ((wrap64 (((Zf l0 t280).f1) * (wrap64 ((wrap64 (((Zf l0 (wrap64 (t280 + 1))).f0) - ((Zf l0 t280).f0))) - (wrap64 (a1 - ((Zf l0 t280).f0))))))) + (wrap64 (((Zf l0 (wrap64 (t280 + 1))).f1) * (wrap64 (a1 - ((Zf l0 t280).f0))))))) (wrap64 (((Zf l0 (wrap64 (t280 + 1))).f0) - ((Zf l0 t280).f0)))).bind fun t288 => (some (t288,0))) else (none)) else (none))) else (none)) else (none))) else (some (0,7)))) else (some (0,1)))) = some (r1,r2) := h;clear h;replace H := Option.bind_eq_some_iff.mp H;obtain ⟨t278,A30,H⟩ := H;replace H : (if t278 = true then ((Zx.f a1).bind fun t279 => (if t279 = true then ((ZD.f k l0 a1).bind fun t280 => (if 0 ≤ t280 then (if t280 < (l0.length : Int) then (if ((Zf l0 t280).f2) = 0 then (some ((Zf l0 t280).f1,0)) else (if 0 ≤ (wrap64 (t280 + 1)) then (if (wrap64 (t280 + 1)) < (l0.length : Int) then ((ZA.f (wrap64 ((wrap64 (((Zf l0 t280).f1) * (wrap64 ((wrap64 (((Zf l0 (wrap64 (t280 + 1))).f0) - ((Zf l0 t280).f0))) - (wrap64 (a1 - ((Zf l0 t280).f0))))))) + (wrap64 (((Zf l0 (wrap64 (t280 + 1))).f1) * (wrap64 (a1 - ((Zf l0 t280).f0))))))) (wrap64 (((Zf l0 (wrap64 (t280 + 1))).f0) - ((Zf l0 t280).f0)))).bind fun t288 => (some (t288,0))) else (none)) else (none))) else (none)) else (none))) else (some (0,7)))) else (some (0,1))) = some (r1,r2) := H;have A3 := Zd.mk A30;clear A30
 by_cases c4 : t278 = true
 · subst c4
   have H1 : ((Zx.f a1).bind fun t279 => (if t279 = true then ((ZD.f k l0 a1).bind fun t280 => (if 0 ≤ t280 then (if t280 < (l0.length : Int) then (if ((Zf l0 t280).f2) = 0 then (some ((Zf l0 t280).f1,0)) else (if 0 ≤ (wrap64 (t280 + 1)) then (if (wrap64 (t280 + 1)) < (l0.length : Int) then ((ZA.f (wrap64 ((wrap64 (((Zf l0 t280).f1) * (wrap64 ((wrap64 (((Zf l0 (wrap64 (t280 + 1))).f0) - ((Zf l0 t280).f0))) - (wrap64 (a1 - ((Zf l0 t280).f0))))))) + (wrap64 (((Zf l0 (wrap64 (t280 + 1))).f1) * (wrap64 (a1 - ((Zf l0 t280).f0))))))) (wrap64 (((Zf l0 (wrap64 (t280 + 1))).f0) - ((Zf l0 t280).f0)))).bind fun t288 => (some (t288,0))) else (none)) else (none))) else (none)) else (none))) else (some (0,7)))) = some (r1,r2) := by rw [if_pos rfl] at H;exact H
   clear H;have H := H1;clear H1;replace H := Option.bind_eq_some_iff.mp H;obtain ⟨t279,A50,H⟩ := H;replace H : (if t279 = true then ((ZD.f k l0 a1).bind fun t280 => (if 0 ≤ t280 then (if t280 < (l0.length : Int) then (if ((Zf l0 t280).f2) = 0 then (some ((Zf l0 t280).f1,0)) else (if 0 ≤ (wrap64 (t280 + 1)) then (if (wrap64 (t280 + 1)) < (l0.length : Int) then ((ZA.f (wrap64 ((wrap64 (((Zf l0 t280).f1) * (wrap64 ((wrap64 (((Zf l0 (wrap64 (t280 + 1))).f0) - ((Zf l0 t280).f0))) - (wrap64 (a1 - ((Zf l0 t280).f0))))))) + (wrap64 (((Zf l0 (wrap64 (t280 + 1))).f1) * (wrap64 (a1 - ((Zf l0 t280).f0))))))) (wrap64 (((Zf l0 (wrap64 (t280 + 1))).f0) - ((Zf l0 t280).f0)))).bind fun t288 => (some (t288,0))) else (none)) else (none))) else (none)) else (none))) else (some (0,7))) = some (r1,r2) := H;have A5 := Zd.mk A50;clear A50
   by_cases c6 : t279 = true
   · subst c6
     have H1 : ((ZD.f k l0 a1).bind fun t280 => (if 0 ≤ t280 then (if t280 < (l0.length : Int) then (if ((Zf l0 t280).f2) = 0 then (some ((Zf l0 t280).f1,0)) else (if 0 ≤ (wrap64 (t280 + 1)) then (if (wrap64 (t280 + 1)) < (l0.length : Int) then ((ZA.f (wrap64 ((wrap64 (((Zf l0 t280).f1) * (wrap64 ((wrap64 (((Zf l0 (wrap64 (t280 + 1))).f0) - ((Zf l0 t280).f0))) - (wrap64 (a1 - ((Zf l0 t280).f0))))))) + (wrap64 (((Zf l0 (wrap64 (t280 + 1))).f1) * (wrap64 (a1 - ((Zf l0 t280).f0))))))) (wrap64 (((Zf l0 (wrap64 (t280 + 1))).f0) - ((Zf l0 t280).f0)))).bind fun t288 => (some (t288,0))) else (none)) else (none))) else (none)) else (none))) = some (r1,r2) := by rw [if_pos rfl] at H;exact H
     clear H;have H := H1;clear H1;replace H := Option.bind_eq_some_iff.mp H;obtain ⟨t280,A70,H⟩ := H;replace H : (if 0 ≤ t280 then (if t280 < (l0.length : Int) then (if ((Zf l0 t280).f2) = 0 then (some ((Zf l0 t280).f1,0)) else (if 0 ≤ (wrap64 (t280 + 1)) then (if (wrap64 (t280 + 1)) < (l0.length : Int) then ((ZA.f (wrap64 ((wrap64 (((Zf l0 t280).f1) * (wrap64 ((wrap64 (((Zf l0 (wrap64 (t280 + 1))).f0) - ((Zf l0 t280).f0))) - (wrap64 (a1 - ((Zf l0 t280).f0))))))) + (wrap64 (((Zf l0 (wrap64 (t280 + 1))).f1) * (wrap64 (a1 - ((Zf l0 t280).f0))))))) (wrap64 (((Zf l0 (wrap64 (t280 + 1))).f0) - ((Zf l0 t280).f0)))).bind fun t288 => (some (t288,0))) else (none)) else (none))) else (none)) else (none)) = some (r1,r2) := H;have A7 := Zd.mk A70;clear A70
     by_cases c8 : 0 ≤ t280
     · rw [if_pos c8] at H
       have c8b0 : decide (0 ≤ t280) = true := decide_eq_true c8;clear c8
       by_cases c9 : t280 < (l0.length : Int)
       · rw [if_pos c9] at H
         have c9b0 : decide (t280 < (l0.length : Int)) = true := decide_eq_true c9;clear c9
         by_cases c10 : ((Zf l0 t280).f2) = 0
         · rw [if_pos c10] at H
           have c10b0 : (((Zf l0 t280).f2) == 0) = true := beq_iff_eq.mpr c10;have c10b1 : (((Zf l0 t280).f2) != 0) = false := bne_eq_false_iff_eq.mpr c10;clear c10;simp only [Option.some.injEq,Prod.mk.injEq] at H;obtain ⟨rfl,rfl⟩ := H
           go_enter Try.func28,Try.ntmps28
           go_wp2_with (first | (go_at_call 11;(with_reducible refine (Zi.calls k _ _ l0 true _ ?side1 ?side2 A3.out).mono ?_);(case side1 => repeat (first | exact HR0.out | (with_reducible refine Kd.Z8 ?_ _) | (with_reducible refine Kd.ZB ?_ _) | (with_reducible refine Kd.ZI ?_)));(case side2 => exact HC0.out);rintro e w11 ⟨rfl,hb⟩;have n0_ := Zd.mk (Z0 (by repeat (first | (with_reducible first | exact HB.out | apply Zc | apply Za | apply Zb) | exact HB.out)) hb);clear HB;have HB := n0_;clear n0_;(try clear hb);(try clear hb2);(try clear hk);(try clear hi)) | (go_at_call 50;(with_reducible refine (Zx.calls a1 true _ A5.out).mono ?_);rintro e w' ⟨rfl,⟨nd,rfl⟩⟩;(try first | exact ⟨rfl,_,World.drewN_drewN _ _ _⟩ | exact ⟨rfl,_,Eq.trans (World.drewN_drewN _ _ _) (congrArg (World.drewN _) (Nat.add_assoc _ _ _))⟩)) | (go_at_call 56;(with_reducible refine (ZD.calls k _ _ l0 a1 t280 _ ?side1 ?side2 A7.out).mono ?_);(case side1 => repeat (first | exact (Kd.ZK HR0.out (by repeat (first | (with_reducible first | exact HB.out | apply Zc | apply Za | apply Zb) | exact HB.out))) | (with_reducible refine Kd.Z8 ?_ _) | (with_reducible refine Kd.ZB ?_ _) | (with_reducible refine Kd.ZI ?_)));(case side2 => exact HC0.out);rintro e w' ⟨rfl,⟨nd,rfl⟩⟩;(try first | exact ⟨rfl,_,World.drewN_drewN _ _ _⟩ | exact ⟨rfl,_,Eq.trans (World.drewN_drewN _ _ _) (congrArg (World.drewN _) (Nat.add_assoc _ _ _))⟩);have p281 : 0 ≤ (t280 : Int) := of_decide_eq_true (by first | (with_reducible assumption) | assumption);have q281 : t280 < (l0.length : Int) := of_decide_eq_true (by first | (with_reducible assumption) | assumption);obtain ⟨ad281,e281,hx281_0,hx281_1,hx281_2⟩ := Xo HR0.out t280 p281 q281;cases e281;replace hx281_0 := (HB.out.cell (World.block_lt_of_cell? w _ hx281_0)).trans hx281_0;replace hx281_1 := (HB.out.cell (World.block_lt_of_cell? w _ hx281_1)).trans hx281_1;replace hx281_2 := (HB.out.cell (World.block_lt_of_cell? w _ hx281_2)).trans hx281_2;replace p281 := eq_true p281;replace q281 := eq_true q281;have p282 : 0 ≤ (t280 : Int) := of_decide_eq_true (by first | (with_reducible assumption) | assumption);have q282 : t280 < (l0.length : Int) := of_decide_eq_true (by first | (with_reducible assumption) | assumption);obtain ⟨ad282,e282,hx282_0,hx282_1,hx282_2⟩ := Xo HR0.out t280 p282 q282;obtain rfl : ad281 = ad282 := (by injection e282);replace hx282_0 := (HB.out.cell (World.block_lt_of_cell? w _ hx282_0)).trans hx282_0;replace hx282_1 := (HB.out.cell (World.block_lt_of_cell? w _ hx282_1)).trans hx282_1;replace hx282_2 := (HB.out.cell (World.block_lt_of_cell? w _ hx282_2)).trans hx282_2;replace p282 := eq_true p282;replace q282 := eq_true q282))
           repeat (go_quiet (first | (go_at_call 11;(with_reducible refine (Zi.calls k _ _ l0 true _ ?side1 ?side2 A3.out).mono ?_);(case side1 => repeat (first | exact HR0.out | (with_reducible refine Kd.Z8 ?_ _) | (with_reducible refine Kd.ZB ?_ _) | (with_reducible refine Kd.ZI ?_)));(case side2 => exact HC0.out);rintro e w11 ⟨rfl,hb⟩;have n0_ := Zd.mk (Z0 (by repeat (first | (with_reducible first | exact HB.out | apply Zc | apply Za | apply Zb) | exact HB.out)) hb);clear HB;have HB := n0_;clear n0_;(try clear hb);(try clear hb2);(try clear hk);(try clear hi)) | (go_at_call 50;(with_reducible refine (Zx.calls a1 true _ A5.out).mono ?_);rintro e w' ⟨rfl,⟨nd,rfl⟩⟩;(try first | exact ⟨rfl,_,World.drewN_drewN _ _ _⟩ | exact ⟨rfl,_,Eq.trans (World.drewN_drewN _ _ _) (congrArg (World.drewN _) (Nat.add_assoc _ _ _))⟩)) | (go_at_call 56;(with_reducible refine (ZD.calls k _ _ l0 a1 t280 _ ?side1 ?side2 A7.out).mono ?_);(case side1 => repeat (first | exact (Kd.ZK HR0.out (by repeat (first | (with_reducible first | exact HB.out | apply Zc | apply Za | apply Zb) | exact HB.out))) | (with_reducible refine Kd.Z8 ?_ _) | (with_reducible refine Kd.ZB ?_ _) | (with_reducible refine Kd.ZI ?_)));(case side2 => exact HC0.out);rintro e w' ⟨rfl,⟨nd,rfl⟩⟩;(try first | exact ⟨rfl,_,World.drewN_drewN _ _ _⟩ | exact ⟨rfl,_,Eq.trans (World.drewN_drewN _ _ _) (congrArg (World.drewN _) (Nat.add_assoc _ _ _))⟩);have p281 : 0 ≤ (t280 : Int) := of_decide_eq_true (by first | (with_reducible assumption) | assumption);have q281 : t280 < (l0.length : Int) := of_decide_eq_true (by first | (with_reducible assumption) | assumption);obtain ⟨ad281,e281,hx281_0,hx281_1,hx281_2⟩ := Xo HR0.out t280 p281 q281;cases e281;replace hx281_0 := (HB.out.cell (World.block_lt_of_cell? w _ hx281_0)).trans hx281_0;replace hx281_1 := (HB.out.cell (World.block_lt_of_cell? w _ hx281_1)).trans hx281_1;replace hx281_2 := (HB.out.cell (World.block_lt_of_cell? w _ hx281_2)).trans hx281_2;replace p281 := eq_true p281;replace q281 := eq_true q281;have p282 : 0 ≤ (t280 : Int) := of_decide_eq_true (by first | (with_reducible assumption) | assumption);have q282 : t280 < (l0.length : Int) := of_decide_eq_true (by first | (with_reducible assumption) | assumption);obtain ⟨ad282,e282,hx282_0,hx282_1,hx282_2⟩ := Xo HR0.out t280 p282 q282;obtain rfl : ad281 = ad282 := (by injection e282);replace hx282_0 := (HB.out.cell (World.block_lt_of_cell? w _ hx282_0)).trans hx282_0;replace hx282_1 := (HB.out.cell (World.block_lt_of_cell? w _ hx282_1)).trans hx282_1;replace hx282_2 := (HB.out.cell (World.block_lt_of_cell? w _ hx282_2)).trans hx282_2;replace p282 := eq_true p282;replace q282 := eq_true q282));try go_wp2_with (first | (go_at_call 11;(with_reducible refine (Zi.calls k _ _ l0 true _ ?side1 ?side2 A3.out).mono ?_);(case side1 => repeat (first | exact HR0.out | (with_reducible refine Kd.Z8 ?_ _) | (with_reducible refine Kd.ZB ?_ _) | (with_reducible refine Kd.ZI ?_)));(case side2 => exact HC0.out);rintro e w11 ⟨rfl,hb⟩;have n0_ := Zd.mk (Z0 (by repeat (first | (with_reducible first | exact HB.out | apply Zc | apply Za | apply Zb) | exact HB.out)) hb);clear HB;have HB := n0_;clear n0_;(try clear hb);(try clear hb2);(try clear hk);(try clear hi)) | (go_at_call 50;(with_reducible refine (Zx.calls a1 true _ A5.out).mono ?_);rintro e w' ⟨rfl,⟨nd,rfl⟩⟩;(try first | exact ⟨rfl,_,World.drewN_drewN _ _ _⟩ | exact ⟨rfl,_,Eq.trans (World.drewN_drewN _ _ _) (congrArg (World.drewN _) (Nat.add_assoc _ _ _))⟩)) | (go_at_call 56;(with_reducible refine (ZD.calls k _ _ l0 a1 t280 _ ?side1 ?side2 A7.out).mono ?_);(case side1 => repeat (first | exact (Kd.ZK HR0.out (by repeat (first | (with_reducible first | exact HB.out | apply Zc | apply Za | apply Zb) | exact HB.out))) | (with_reducible refine Kd.Z8 ?_ _) | (with_reducible refine Kd.ZB ?_ _) | (with_reducible refine Kd.ZI ?_)));(case side2 => exact HC0.out);rintro e w' ⟨rfl,⟨nd,rfl⟩⟩;(try first | exact ⟨rfl,_,World.drewN_drewN _ _ _⟩ | exact ⟨rfl,_,Eq.trans (World.drewN_drewN _ _ _) (congrArg (World.drewN _) (Nat.add_assoc _ _ _))⟩);have p281 : 0 ≤ (t280 : Int) := of_decide_eq_true (by first | (with_reducible assumption) | assumption);have q281 : t280 < (l0.length : Int) := of_decide_eq_true (by first | (with_reducible assumption) | assumption);obtain ⟨ad281,e281,hx281_0,hx281_1,hx281_2⟩ := Xo HR0.out t280 p281 q281;cases e281;replace hx281_0 := (HB.out.cell (World.block_lt_of_cell? w _ hx281_0)).trans hx281_0;replace hx281_1 := (HB.out.cell (World.block_lt_of_cell? w _ hx281_1)).trans hx281_1;replace hx281_2 := (HB.out.cell (World.block_lt_of_cell? w _ hx281_2)).trans hx281_2;replace p281 := eq_true p281;replace q281 := eq_true q281;have p282 : 0 ≤ (t280 : Int) := of_decide_eq_true (by first | (with_reducible assumption) | assumption);have q282 : t280 < (l0.length : Int) := of_decide_eq_true (by first | (with_reducible assumption) | assumption);obtain ⟨ad282,e282,hx282_0,hx282_1,hx282_2⟩ := Xo HR0.out t280 p282 q282;obtain rfl : ad281 = ad282 := (by injection e282);replace hx282_0 := (HB.out.cell (World.block_lt_of_cell? w _ hx282_0)).trans hx282_0;replace hx282_1 := (HB.out.cell (World.block_lt_of_cell? w _ hx282_1)).trans hx282_1;replace hx282_2 := (HB.out.cell (World.block_lt_of_cell? w _ hx282_2)).trans hx282_2;replace p282 := eq_true p282;replace q282 := eq_true q282)))
           go_ret2
           exact ⟨by first | rfl | (simp [Zt,Zv] <;> rfl) | (simp [*,Zt,Zv] <;> rfl),by repeat (first | (with_reducible first | exact HB.out | apply Zc | apply Za | apply Zb) | exact HB.out)⟩
         · rw [if_neg c10] at H
           have c10b0 : (((Zf l0 t280).f2) == 0) = false := beq_eq_false_iff_ne.mpr c10;have c10b1 : (((Zf l0 t280).f2) != 0) = true := bne_iff_ne.mpr c10
           obtain ⟨ji12,hji12⟩ : ∃ j_ : Int,(wrap64 (t280 + 1)) = j_ := ⟨_,rfl⟩
           replace H : (if 0 ≤ (ji12) then (if (ji12) < (l0.length : Int) then ((ZA.f (wrap64 ((wrap64 (((Zf l0 t280).f1) * (wrap64 ((wrap64 (((Zf l0 (ji12)).f0) - ((Zf l0 t280).f0))) - (wrap64 (a1 - ((Zf l0 t280).f0))))))) + (wrap64 (((Zf l0 (ji12)).f1) * (wrap64 (a1 - ((Zf l0 t280).f0))))))) (wrap64 (((Zf l0 (ji12)).f0) - ((Zf l0 t280).f0)))).bind fun t288 => (some (t288,0))) else (none)) else (none)) = some (r1,r2) := by first | (rw [hji12] at H;exact H) | (simp only [hji12] at H ⊢;exact H)
           (try rw [hji12] at A3)
           (try rw [hji12] at A5)
           (try rw [hji12] at A7)
           have hji12w : (IntKind.i64.wrap (t280 + 1)) = ji12 := (i64_w _).trans hji12
           by_cases c13 : 0 ≤ (ji12)
           · rw [if_pos c13] at H
             have c13b0 : decide (0 ≤ (ji12)) = true := decide_eq_true c13;clear c13
             by_cases c14 : (ji12) < (l0.length : Int)
             · rw [if_pos c14] at H
               have c14b0 : decide ((ji12) < (l0.length : Int)) = true := decide_eq_true c14;clear c14;replace H := Option.bind_eq_some_iff.mp H;obtain ⟨t288,A150,H⟩ := H;replace H : (some (t288,0)) = some (r1,r2) := H;have A15 := Zd.mk A150;clear A150;simp only [Option.some.injEq,Prod.mk.injEq] at H;obtain ⟨rfl,rfl⟩ := H
               go_enter Try.func28,Try.ntmps28
               go_wp2_with (first | (go_at_call 11;(with_reducible refine (Zi.calls k _ _ l0 true _ ?side1 ?side2 A3.out).mono ?_);(case side1 => repeat (first | exact HR0.out | (with_reducible refine Kd.Z8 ?_ _) | (with_reducible refine Kd.ZB ?_ _) | (with_reducible refine Kd.ZI ?_)));(case side2 => exact HC0.out);rintro e w16 ⟨rfl,hb⟩;have n0_ := Zd.mk (Z0 (by repeat (first | (with_reducible first | exact HB.out | apply Zc | apply Za | apply Zb) | exact HB.out)) hb);clear HB;have HB := n0_;clear n0_;(try clear hb);(try clear hb2);(try clear hk);(try clear hi)) | (go_at_call 50;(with_reducible refine (Zx.calls a1 true _ A5.out).mono ?_);rintro e w' ⟨rfl,⟨nd,rfl⟩⟩;(try first | exact ⟨rfl,_,World.drewN_drewN _ _ _⟩ | exact ⟨rfl,_,Eq.trans (World.drewN_drewN _ _ _) (congrArg (World.drewN _) (Nat.add_assoc _ _ _))⟩)) | (go_at_call 56;(with_reducible refine (ZD.calls k _ _ l0 a1 t280 _ ?side1 ?side2 A7.out).mono ?_);(case side1 => repeat (first | exact (Kd.ZK HR0.out (by repeat (first | (with_reducible first | exact HB.out | apply Zc | apply Za | apply Zb) | exact HB.out))) | (with_reducible refine Kd.Z8 ?_ _) | (with_reducible refine Kd.ZB ?_ _) | (with_reducible refine Kd.ZI ?_)));(case side2 => exact HC0.out);rintro e w' ⟨rfl,⟨nd,rfl⟩⟩;(try first | exact ⟨rfl,_,World.drewN_drewN _ _ _⟩ | exact ⟨rfl,_,Eq.trans (World.drewN_drewN _ _ _) (congrArg (World.drewN _) (Nat.add_assoc _ _ _))⟩);have p281 : 0 ≤ (t280 : Int) := of_decide_eq_true (by first | (with_reducible assumption) | assumption);have q281 : t280 < (l0.length : Int) := of_decide_eq_true (by first | (with_reducible assumption) | assumption);obtain ⟨ad281,e281,hx281_0,hx281_1,hx281_2⟩ := Xo HR0.out t280 p281 q281;cases e281;replace hx281_0 := (HB.out.cell (World.block_lt_of_cell? w _ hx281_0)).trans hx281_0;replace hx281_1 := (HB.out.cell (World.block_lt_of_cell? w _ hx281_1)).trans hx281_1;replace hx281_2 := (HB.out.cell (World.block_lt_of_cell? w _ hx281_2)).trans hx281_2;replace p281 := eq_true p281;replace q281 := eq_true q281;have p283 : 0 ≤ ((ji12) : Int) := of_decide_eq_true (by first | (with_reducible assumption) | assumption);have q283 : (ji12) < (l0.length : Int) := of_decide_eq_true (by first | (with_reducible assumption) | assumption);obtain ⟨ad283,e283,hx283_0,hx283_1,hx283_2⟩ := Xo HR0.out (ji12) p283 q283;obtain rfl : ad281 = ad283 := (by injection e283);replace hx283_0 := (HB.out.cell (World.block_lt_of_cell? w _ hx283_0)).trans hx283_0;replace hx283_1 := (HB.out.cell (World.block_lt_of_cell? w _ hx283_1)).trans hx283_1;replace hx283_2 := (HB.out.cell (World.block_lt_of_cell? w _ hx283_2)).trans hx283_2;replace p283 := eq_true p283;replace q283 := eq_true q283;have p284 : 0 ≤ (t280 : Int) := of_decide_eq_true (by first | (with_reducible assumption) | assumption);have q284 : t280 < (l0.length : Int) := of_decide_eq_true (by first | (with_reducible assumption) | assumption);obtain ⟨ad284,e284,hx284_0,hx284_1,hx284_2⟩ := Xo HR0.out t280 p284 q284;obtain rfl : ad281 = ad284 := (by injection e284);replace hx284_0 := (HB.out.cell (World.block_lt_of_cell? w _ hx284_0)).trans hx284_0;replace hx284_1 := (HB.out.cell (World.block_lt_of_cell? w _ hx284_1)).trans hx284_1;replace hx284_2 := (HB.out.cell (World.block_lt_of_cell? w _ hx284_2)).trans hx284_2;replace p284 := eq_true p284;replace q284 := eq_true q284;have p285 : 0 ≤ (t280 : Int) := of_decide_eq_true (by first | (with_reducible assumption) | assumption);have q285 : t280 < (l0.length : Int) := of_decide_eq_true (by first | (with_reducible assumption) | assumption);obtain ⟨ad285,e285,hx285_0,hx285_1,hx285_2⟩ := Xo HR0.out t280 p285 q285;obtain rfl : ad281 = ad285 := (by injection e285);replace hx285_0 := (HB.out.cell (World.block_lt_of_cell? w _ hx285_0)).trans hx285_0;replace hx285_1 := (HB.out.cell (World.block_lt_of_cell? w _ hx285_1)).trans hx285_1;replace hx285_2 := (HB.out.cell (World.block_lt_of_cell? w _ hx285_2)).trans hx285_2;replace p285 := eq_true p285;replace q285 := eq_true q285;have p286 : 0 ≤ (t280 : Int) := of_decide_eq_true (by first | (with_reducible assumption) | assumption);have q286 : t280 < (l0.length : Int) := of_decide_eq_true (by first | (with_reducible assumption) | assumption);obtain ⟨ad286,e286,hx286_0,hx286_1,hx286_2⟩ := Xo HR0.out t280 p286 q286;obtain rfl : ad281 = ad286 := (by injection e286);replace hx286_0 := (HB.out.cell (World.block_lt_of_cell? w _ hx286_0)).trans hx286_0;replace hx286_1 := (HB.out.cell (World.block_lt_of_cell? w _ hx286_1)).trans hx286_1;replace hx286_2 := (HB.out.cell (World.block_lt_of_cell? w _ hx286_2)).trans hx286_2;replace p286 := eq_true p286;replace q286 := eq_true q286;have p287 : 0 ≤ ((ji12) : Int) := of_decide_eq_true (by first | (with_reducible assumption) | assumption);have q287 : (ji12) < (l0.length : Int) := of_decide_eq_true (by first | (with_reducible assumption) | assumption);obtain ⟨ad287,e287,hx287_0,hx287_1,hx287_2⟩ := Xo HR0.out (ji12) p287 q287;obtain rfl : ad281 = ad287 := (by injection e287);replace hx287_0 := (HB.out.cell (World.block_lt_of_cell? w _ hx287_0)).trans hx287_0;replace hx287_1 := (HB.out.cell (World.block_lt_of_cell? w _ hx287_1)).trans hx287_1;replace hx287_2 := (HB.out.cell (World.block_lt_of_cell? w _ hx287_2)).trans hx287_2;replace p287 := eq_true p287;replace q287 := eq_true q287) | (go_at_call 45;(with_reducible refine (ZA.calls (wrap64 ((wrap64 (((Zf l0 t280).f1) * (wrap64 ((wrap64 (((Zf l0 (ji12)).f0) - ((Zf l0 t280).f0))) - (wrap64 (a1 - ((Zf l0 t280).f0))))))) + (wrap64 (((Zf l0 (ji12)).f1) * (wrap64 (a1 - ((Zf l0 t280).f0))))))) (wrap64 (((Zf l0 (ji12)).f0) - ((Zf l0 t280).f0))) t288 _ A15.out).mono ?_);rintro e w' ⟨rfl,⟨nd,rfl⟩⟩;(try first | exact ⟨rfl,_,World.drewN_drewN _ _ _⟩ | exact ⟨rfl,_,Eq.trans (World.drewN_drewN _ _ _) (congrArg (World.drewN _) (Nat.add_assoc _ _ _))⟩)))
               repeat (go_quiet (first | (go_at_call 11;(with_reducible refine (Zi.calls k _ _ l0 true _ ?side1 ?side2 A3.out).mono ?_);(case side1 => repeat (first | exact HR0.out | (with_reducible refine Kd.Z8 ?_ _) | (with_reducible refine Kd.ZB ?_ _) | (with_reducible refine Kd.ZI ?_)));(case side2 => exact HC0.out);rintro e w16 ⟨rfl,hb⟩;have n0_ := Zd.mk (Z0 (by repeat (first | (with_reducible first | exact HB.out | apply Zc | apply Za | apply Zb) | exact HB.out)) hb);clear HB;have HB := n0_;clear n0_;(try clear hb);(try clear hb2);(try clear hk);(try clear hi)) | (go_at_call 50;(with_reducible refine (Zx.calls a1 true _ A5.out).mono ?_);rintro e w' ⟨rfl,⟨nd,rfl⟩⟩;(try first | exact ⟨rfl,_,World.drewN_drewN _ _ _⟩ | exact ⟨rfl,_,Eq.trans (World.drewN_drewN _ _ _) (congrArg (World.drewN _) (Nat.add_assoc _ _ _))⟩)) | (go_at_call 56;(with_reducible refine (ZD.calls k _ _ l0 a1 t280 _ ?side1 ?side2 A7.out).mono ?_);(case side1 => repeat (first | exact (Kd.ZK HR0.out (by repeat (first | (with_reducible first | exact HB.out | apply Zc | apply Za | apply Zb) | exact HB.out))) | (with_reducible refine Kd.Z8 ?_ _) | (with_reducible refine Kd.ZB ?_ _) | (with_reducible refine Kd.ZI ?_)));(case side2 => exact HC0.out);rintro e w' ⟨rfl,⟨nd,rfl⟩⟩;(try first | exact ⟨rfl,_,World.drewN_drewN _ _ _⟩ | exact ⟨rfl,_,Eq.trans (World.drewN_drewN _ _ _) (congrArg (World.drewN _) (Nat.add_assoc _ _ _))⟩);have p281 : 0 ≤ (t280 : Int) := of_decide_eq_true (by first | (with_reducible assumption) | assumption);have q281 : t280 < (l0.length : Int) := of_decide_eq_true (by first | (with_reducible assumption) | assumption);obtain ⟨ad281,e281,hx281_0,hx281_1,hx281_2⟩ := Xo HR0.out t280 p281 q281;cases e281;replace hx281_0 := (HB.out.cell (World.block_lt_of_cell? w _ hx281_0)).trans hx281_0;replace hx281_1 := (HB.out.cell (World.block_lt_of_cell? w _ hx281_1)).trans hx281_1;replace hx281_2 := (HB.out.cell (World.block_lt_of_cell? w _ hx281_2)).trans hx281_2;replace p281 := eq_true p281;replace q281 := eq_true q281;have p283 : 0 ≤ ((ji12) : Int) := of_decide_eq_true (by first | (with_reducible assumption) | assumption);have q283 : (ji12) < (l0.length : Int) := of_decide_eq_true (by first | (with_reducible assumption) | assumption);obtain ⟨ad283,e283,hx283_0,hx283_1,hx283_2⟩ := Xo HR0.out (ji12) p283 q283;obtain rfl : ad281 = ad283 := (by injection e283);replace hx283_0 := (HB.out.cell (World.block_lt_of_cell? w _ hx283_0)).trans hx283_0;replace hx283_1 := (HB.out.cell (World.block_lt_of_cell? w _ hx283_1)).trans hx283_1;replace hx283_2 := (HB.out.cell (World.block_lt_of_cell? w _ hx283_2)).trans hx283_2;replace p283 := eq_true p283;replace q283 := eq_true q283;have p284 : 0 ≤ (t280 : Int) := of_decide_eq_true (by first | (with_reducible assumption) | assumption);have q284 : t280 < (l0.length : Int) := of_decide_eq_true (by first | (with_reducible assumption) | assumption);obtain ⟨ad284,e284,hx284_0,hx284_1,hx284_2⟩ := Xo HR0.out t280 p284 q284;obtain rfl : ad281 = ad284 := (by injection e284);replace hx284_0 := (HB.out.cell (World.block_lt_of_cell? w _ hx284_0)).trans hx284_0;replace hx284_1 := (HB.out.cell (World.block_lt_of_cell? w _ hx284_1)).trans hx284_1;replace hx284_2 := (HB.out.cell (World.block_lt_of_cell? w _ hx284_2)).trans hx284_2;replace p284 := eq_true p284;replace q284 := eq_true q284;have p285 : 0 ≤ (t280 : Int) := of_decide_eq_true (by first | (with_reducible assumption) | assumption);have q285 : t280 < (l0.length : Int) := of_decide_eq_true (by first | (with_reducible assumption) | assumption);obtain ⟨ad285,e285,hx285_0,hx285_1,hx285_2⟩ := Xo HR0.out t280 p285 q285;obtain rfl : ad281 = ad285 := (by injection e285);replace hx285_0 := (HB.out.cell (World.block_lt_of_cell? w _ hx285_0)).trans hx285_0;replace hx285_1 := (HB.out.cell (World.block_lt_of_cell? w _ hx285_1)).trans hx285_1;replace hx285_2 := (HB.out.cell (World.block_lt_of_cell? w _ hx285_2)).trans hx285_2;replace p285 := eq_true p285;replace q285 := eq_true q285;have p286 : 0 ≤ (t280 : Int) := of_decide_eq_true (by first | (with_reducible assumption) | assumption);have q286 : t280 < (l0.length : Int) := of_decide_eq_true (by first | (with_reducible assumption) | assumption);obtain ⟨ad286,e286,hx286_0,hx286_1,hx286_2⟩ := Xo HR0.out t280 p286 q286;obtain rfl : ad281 = ad286 := (by injection e286);replace hx286_0 := (HB.out.cell (World.block_lt_of_cell? w _ hx286_0)).trans hx286_0;replace hx286_1 := (HB.out.cell (World.block_lt_of_cell? w _ hx286_1)).trans hx286_1;replace hx286_2 := (HB.out.cell (World.block_lt_of_cell? w _ hx286_2)).trans hx286_2;replace p286 := eq_true p286;replace q286 := eq_true q286;have p287 : 0 ≤ ((ji12) : Int) := of_decide_eq_true (by first | (with_reducible assumption) | assumption);have q287 : (ji12) < (l0.length : Int) := of_decide_eq_true (by first | (with_reducible assumption) | assumption);obtain ⟨ad287,e287,hx287_0,hx287_1,hx287_2⟩ := Xo HR0.out (ji12) p287 q287;obtain rfl : ad281 = ad287 := (by injection e287);replace hx287_0 := (HB.out.cell (World.block_lt_of_cell? w _ hx287_0)).trans hx287_0;replace hx287_1 := (HB.out.cell (World.block_lt_of_cell? w _ hx287_1)).trans hx287_1;replace hx287_2 := (HB.out.cell (World.block_lt_of_cell? w _ hx287_2)).trans hx287_2;replace p287 := eq_true p287;replace q287 := eq_true q287) | (go_at_call 45;(with_reducible refine (ZA.calls (wrap64 ((wrap64 (((Zf l0 t280).f1) * (wrap64 ((wrap64 (((Zf l0 (ji12)).f0) - ((Zf l0 t280).f0))) - (wrap64 (a1 - ((Zf l0 t280).f0))))))) + (wrap64 (((Zf l0 (ji12)).f1) * (wrap64 (a1 - ((Zf l0 t280).f0))))))) (wrap64 (((Zf l0 (ji12)).f0) - ((Zf l0 t280).f0))) t288 _ A15.out).mono ?_);rintro e w' ⟨rfl,⟨nd,rfl⟩⟩;(try first | exact ⟨rfl,_,World.drewN_drewN _ _ _⟩ | exact ⟨rfl,_,Eq.trans (World.drewN_drewN _ _ _) (congrArg (World.drewN _) (Nat.add_assoc _ _ _))⟩)));try go_wp2_with (first | (go_at_call 11;(with_reducible refine (Zi.calls k _ _ l0 true _ ?side1 ?side2 A3.out).mono ?_);(case side1 => repeat (first | exact HR0.out | (with_reducible refine Kd.Z8 ?_ _) | (with_reducible refine Kd.ZB ?_ _) | (with_reducible refine Kd.ZI ?_)));(case side2 => exact HC0.out);rintro e w16 ⟨rfl,hb⟩;have n0_ := Zd.mk (Z0 (by repeat (first | (with_reducible first | exact HB.out | apply Zc | apply Za | apply Zb) | exact HB.out)) hb);clear HB;have HB := n0_;clear n0_;(try clear hb);(try clear hb2);(try clear hk);(try clear hi)) | (go_at_call 50;(with_reducible refine (Zx.calls a1 true _ A5.out).mono ?_);rintro e w' ⟨rfl,⟨nd,rfl⟩⟩;(try first | exact ⟨rfl,_,World.drewN_drewN _ _ _⟩ | exact ⟨rfl,_,Eq.trans (World.drewN_drewN _ _ _) (congrArg (World.drewN _) (Nat.add_assoc _ _ _))⟩)) | (go_at_call 56;(with_reducible refine (ZD.calls k _ _ l0 a1 t280 _ ?side1 ?side2 A7.out).mono ?_);(case side1 => repeat (first | exact (Kd.ZK HR0.out (by repeat (first | (with_reducible first | exact HB.out | apply Zc | apply Za | apply Zb) | exact HB.out))) | (with_reducible refine Kd.Z8 ?_ _) | (with_reducible refine Kd.ZB ?_ _) | (with_reducible refine Kd.ZI ?_)));(case side2 => exact HC0.out);rintro e w' ⟨rfl,⟨nd,rfl⟩⟩;(try first | exact ⟨rfl,_,World.drewN_drewN _ _ _⟩ | exact ⟨rfl,_,Eq.trans (World.drewN_drewN _ _ _) (congrArg (World.drewN _) (Nat.add_assoc _ _ _))⟩);have p281 : 0 ≤ (t280 : Int) := of_decide_eq_true (by first | (with_reducible assumption) | assumption);have q281 : t280 < (l0.length : Int) := of_decide_eq_true (by first | (with_reducible assumption) | assumption);obtain ⟨ad281,e281,hx281_0,hx281_1,hx281_2⟩ := Xo HR0.out t280 p281 q281;cases e281;replace hx281_0 := (HB.out.cell (World.block_lt_of_cell? w _ hx281_0)).trans hx281_0;replace hx281_1 := (HB.out.cell (World.block_lt_of_cell? w _ hx281_1)).trans hx281_1;replace hx281_2 := (HB.out.cell (World.block_lt_of_cell? w _ hx281_2)).trans hx281_2;replace p281 := eq_true p281;replace q281 := eq_true q281;have p283 : 0 ≤ ((ji12) : Int) := of_decide_eq_true (by first | (with_reducible assumption) | assumption);have q283 : (ji12) < (l0.length : Int) := of_decide_eq_true (by first | (with_reducible assumption) | assumption);obtain ⟨ad283,e283,hx283_0,hx283_1,hx283_2⟩ := Xo HR0.out (ji12) p283 q283;obtain rfl : ad281 = ad283 := (by injection e283);replace hx283_0 := (HB.out.cell (World.block_lt_of_cell? w _ hx283_0)).trans hx283_0;replace hx283_1 := (HB.out.cell (World.block_lt_of_cell? w _ hx283_1)).trans hx283_1;replace hx283_2 := (HB.out.cell (World.block_lt_of_cell? w _ hx283_2)).trans hx283_2;replace p283 := eq_true p283;replace q283 := eq_true q283;have p284 : 0 ≤ (t280 : Int) := of_decide_eq_true (by first | (with_reducible assumption) | assumption);have q284 : t280 < (l0.length : Int) := of_decide_eq_true (by first | (with_reducible assumption) | assumption);obtain ⟨ad284,e284,hx284_0,hx284_1,hx284_2⟩ := Xo HR0.out t280 p284 q284;obtain rfl : ad281 = ad284 := (by injection e284);replace hx284_0 := (HB.out.cell (World.block_lt_of_cell? w _ hx284_0)).trans hx284_0;replace hx284_1 := (HB.out.cell (World.block_lt_of_cell? w _ hx284_1)).trans hx284_1;replace hx284_2 := (HB.out.cell (World.block_lt_of_cell? w _ hx284_2)).trans hx284_2;replace p284 := eq_true p284;replace q284 := eq_true q284;have p285 : 0 ≤ (t280 : Int) := of_decide_eq_true (by first | (with_reducible assumption) | assumption);have q285 : t280 < (l0.length : Int) := of_decide_eq_true (by first | (with_reducible assumption) | assumption);obtain ⟨ad285,e285,hx285_0,hx285_1,hx285_2⟩ := Xo HR0.out t280 p285 q285;obtain rfl : ad281 = ad285 := (by injection e285);replace hx285_0 := (HB.out.cell (World.block_lt_of_cell? w _ hx285_0)).trans hx285_0;replace hx285_1 := (HB.out.cell (World.block_lt_of_cell? w _ hx285_1)).trans hx285_1;replace hx285_2 := (HB.out.cell (World.block_lt_of_cell? w _ hx285_2)).trans hx285_2;replace p285 := eq_true p285;replace q285 := eq_true q285;have p286 : 0 ≤ (t280 : Int) := of_decide_eq_true (by first | (with_reducible assumption) | assumption);have q286 : t280 < (l0.length : Int) := of_decide_eq_true (by first | (with_reducible assumption) | assumption);obtain ⟨ad286,e286,hx286_0,hx286_1,hx286_2⟩ := Xo HR0.out t280 p286 q286;obtain rfl : ad281 = ad286 := (by injection e286);replace hx286_0 := (HB.out.cell (World.block_lt_of_cell? w _ hx286_0)).trans hx286_0;replace hx286_1 := (HB.out.cell (World.block_lt_of_cell? w _ hx286_1)).trans hx286_1;replace hx286_2 := (HB.out.cell (World.block_lt_of_cell? w _ hx286_2)).trans hx286_2;replace p286 := eq_true p286;replace q286 := eq_true q286;have p287 : 0 ≤ ((ji12) : Int) := of_decide_eq_true (by first | (with_reducible assumption) | assumption);have q287 : (ji12) < (l0.length : Int) := of_decide_eq_true (by first | (with_reducible assumption) | assumption);obtain ⟨ad287,e287,hx287_0,hx287_1,hx287_2⟩ := Xo HR0.out (ji12) p287 q287;obtain rfl : ad281 = ad287 := (by injection e287);replace hx287_0 := (HB.out.cell (World.block_lt_of_cell? w _ hx287_0)).trans hx287_0;replace hx287_1 := (HB.out.cell (World.block_lt_of_cell? w _ hx287_1)).trans hx287_1;replace hx287_2 := (HB.out.cell (World.block_lt_of_cell? w _ hx287_2)).trans hx287_2;replace p287 := eq_true p287;replace q287 := eq_true q287) | (go_at_call 45;(with_reducible refine (ZA.calls (wrap64 ((wrap64 (((Zf l0 t280).f1) * (wrap64 ((wrap64 (((Zf l0 (ji12)).f0) - ((Zf l0 t280).f0))) - (wrap64 (a1 - ((Zf l0 t280).f0))))))) + (wrap64 (((Zf l0 (ji12)).f1) * (wrap64 (a1 - ((Zf l0 t280).f0))))))) (wrap64 (((Zf l0 (ji12)).f0) - ((Zf l0 t280).f0))) t288 _ A15.out).mono ?_);rintro e w' ⟨rfl,⟨nd,rfl⟩⟩;(try first | exact ⟨rfl,_,World.drewN_drewN _ _ _⟩ | exact ⟨rfl,_,Eq.trans (World.drewN_drewN _ _ _) (congrArg (World.drewN _) (Nat.add_assoc _ _ _))⟩))))
               go_ret2
               exact ⟨by first | rfl | (simp [Zt,Zv] <;> rfl) | (simp only [← hji12];first | rfl | (simp [Zt,Zv] <;> rfl)) | (simp [*,Zt,Zv] <;> rfl),by repeat (first | (with_reducible first | exact HB.out | apply Zc | apply Za | apply Zb) | exact HB.out)⟩
             · rw [if_neg c14] at H
               exact absurd H (by simp)
           · rw [if_neg c13] at H
             exact absurd H (by simp)
       · rw [if_neg c9] at H
         exact absurd H (by simp)
     · rw [if_neg c8] at H
       exact absurd H (by simp)
   · replace c6 := Bool.eq_false_iff.mpr c6
     subst c6
     have H1 : (some (0,7)) = some (r1,r2) := by rw [if_neg (show ¬ (false = true) by decide)] at H;exact H
     clear H;have H := H1;clear H1;simp only [Option.some.injEq,Prod.mk.injEq] at H;obtain ⟨rfl,rfl⟩ := H
     go_enter Try.func28,Try.ntmps28
     go_wp2_with (first | (go_at_call 11;(with_reducible refine (Zi.calls k _ _ l0 true _ ?side1 ?side2 A3.out).mono ?_);(case side1 => repeat (first | exact HR0.out | (with_reducible refine Kd.Z8 ?_ _) | (with_reducible refine Kd.ZB ?_ _) | (with_reducible refine Kd.ZI ?_)));(case side2 => exact HC0.out);rintro e w17 ⟨rfl,hb⟩;have n0_ := Zd.mk (Z0 (by repeat (first | (with_reducible first | exact HB.out | apply Zc | apply Za | apply Zb) | exact HB.out)) hb);clear HB;have HB := n0_;clear n0_;(try clear hb);(try clear hb2);(try clear hk);(try clear hi)) | (go_at_call 50;(with_reducible refine (Zx.calls a1 false _ A5.out).mono ?_);rintro e w' ⟨rfl,⟨nd,rfl⟩⟩;(try first | exact ⟨rfl,_,World.drewN_drewN _ _ _⟩ | exact ⟨rfl,_,Eq.trans (World.drewN_drewN _ _ _) (congrArg (World.drewN _) (Nat.add_assoc _ _ _))⟩)))
     repeat (go_quiet (first | (go_at_call 11;(with_reducible refine (Zi.calls k _ _ l0 true _ ?side1 ?side2 A3.out).mono ?_);(case side1 => repeat (first | exact HR0.out | (with_reducible refine Kd.Z8 ?_ _) | (with_reducible refine Kd.ZB ?_ _) | (with_reducible refine Kd.ZI ?_)));(case side2 => exact HC0.out);rintro e w17 ⟨rfl,hb⟩;have n0_ := Zd.mk (Z0 (by repeat (first | (with_reducible first | exact HB.out | apply Zc | apply Za | apply Zb) | exact HB.out)) hb);clear HB;have HB := n0_;clear n0_;(try clear hb);(try clear hb2);(try clear hk);(try clear hi)) | (go_at_call 50;(with_reducible refine (Zx.calls a1 false _ A5.out).mono ?_);rintro e w' ⟨rfl,⟨nd,rfl⟩⟩;(try first | exact ⟨rfl,_,World.drewN_drewN _ _ _⟩ | exact ⟨rfl,_,Eq.trans (World.drewN_drewN _ _ _) (congrArg (World.drewN _) (Nat.add_assoc _ _ _))⟩)));try go_wp2_with (first | (go_at_call 11;(with_reducible refine (Zi.calls k _ _ l0 true _ ?side1 ?side2 A3.out).mono ?_);(case side1 => repeat (first | exact HR0.out | (with_reducible refine Kd.Z8 ?_ _) | (with_reducible refine Kd.ZB ?_ _) | (with_reducible refine Kd.ZI ?_)));(case side2 => exact HC0.out);rintro e w17 ⟨rfl,hb⟩;have n0_ := Zd.mk (Z0 (by repeat (first | (with_reducible first | exact HB.out | apply Zc | apply Za | apply Zb) | exact HB.out)) hb);clear HB;have HB := n0_;clear n0_;(try clear hb);(try clear hb2);(try clear hk);(try clear hi)) | (go_at_call 50;(with_reducible refine (Zx.calls a1 false _ A5.out).mono ?_);rintro e w' ⟨rfl,⟨nd,rfl⟩⟩;(try first | exact ⟨rfl,_,World.drewN_drewN _ _ _⟩ | exact ⟨rfl,_,Eq.trans (World.drewN_drewN _ _ _) (congrArg (World.drewN _) (Nat.add_assoc _ _ _))⟩))))
     go_ret2
     exact ⟨by first | rfl | (simp [Zt,Zv] <;> rfl) | (simp [*,Zt,Zv] <;> rfl),by repeat (first | (with_reducible first | exact HB.out | apply Zc | apply Za | apply Zb) | exact HB.out)⟩
 · replace c4 := Bool.eq_false_iff.mpr c4
   subst c4
   have H1 : (some (0,1)) = some (r1,r2) := by rw [if_neg (show ¬ (false = true) by decide)] at H;exact H
   clear H;have H := H1;clear H1;simp only [Option.some.injEq,Prod.mk.injEq] at H;obtain ⟨rfl,rfl⟩ := H
   go_enter Try.func28,Try.ntmps28
   go_wp2_with (first | (go_at_call 11;(with_reducible refine (Zi.calls k _ _ l0 false _ ?side1 ?side2 A3.out).mono ?_);(case side1 => repeat (first | exact HR0.out | (with_reducible refine Kd.Z8 ?_ _) | (with_reducible refine Kd.ZB ?_ _) | (with_reducible refine Kd.ZI ?_)));(case side2 => exact HC0.out);rintro e w18 ⟨rfl,hb⟩;have n0_ := Zd.mk (Z0 (by repeat (first | (with_reducible first | exact HB.out | apply Zc | apply Za | apply Zb) | exact HB.out)) hb);clear HB;have HB := n0_;clear n0_;(try clear hb);(try clear hb2);(try clear hk);(try clear hi)))
   repeat (go_quiet (first | (go_at_call 11;(with_reducible refine (Zi.calls k _ _ l0 false _ ?side1 ?side2 A3.out).mono ?_);(case side1 => repeat (first | exact HR0.out | (with_reducible refine Kd.Z8 ?_ _) | (with_reducible refine Kd.ZB ?_ _) | (with_reducible refine Kd.ZI ?_)));(case side2 => exact HC0.out);rintro e w18 ⟨rfl,hb⟩;have n0_ := Zd.mk (Z0 (by repeat (first | (with_reducible first | exact HB.out | apply Zc | apply Za | apply Zb) | exact HB.out)) hb);clear HB;have HB := n0_;clear n0_;(try clear hb);(try clear hb2);(try clear hk);(try clear hi)));try go_wp2_with (first | (go_at_call 11;(with_reducible refine (Zi.calls k _ _ l0 false _ ?side1 ?side2 A3.out).mono ?_);(case side1 => repeat (first | exact HR0.out | (with_reducible refine Kd.Z8 ?_ _) | (with_reducible refine Kd.ZB ?_ _) | (with_reducible refine Kd.ZI ?_)));(case side2 => exact HC0.out);rintro e w18 ⟨rfl,hb⟩;have n0_ := Zd.mk (Z0 (by repeat (first | (with_reducible first | exact HB.out | apply Zc | apply Za | apply Zb) | exact HB.out)) hb);clear HB;have HB := n0_;clear n0_;(try clear hb);(try clear hb2);(try clear hk);(try clear hi))))
   go_ret2
   exact ⟨by first | rfl | (simp [Zt,Zv] <;> rfl) | (simp [*,Zt,Zv] <;> rfl),by repeat (first | (with_reducible first | exact HB.out | apply Zc | apply Za | apply Zb) | exact HB.out)⟩
end Go.Proofs.Ytomlfbmfdoallaa.PA

namespace Go.Proofs.Ytomlfbmfdoallaa.Pure
open Go.RowKit Go.Proofs.Ytomlfbmfdoallaa.PA Go.Proofs.YtomlfbmfdoallaaW.PrintWords Go.Proofs.YtomlfbmfdoallaaW.PrintLast
set_option linter.unusedVariables false
set_option linter.unusedSimpArgs false
theorem Qt (a b : Int) (hb : 0 < b) (hb2 : b ≤ 2305843009213693951) (ha : -2305843009213693951 ≤ a) (ha2 : a ≤ 2305843009213693951) : ZA.f a b = some (rnd a b) := by
 unfold ZA.f rnd;have w1 : wrap64 (2 * b) = 2 * b := w64 (by omega) (by omega)
 by_cases h : a < 0
 · rw [if_pos h,if_pos h,w1,if_neg (by omega),w64 (x := -a) (by omega) (by omega),w64 (x := -a * 2) (by omega) (by omega),w64 (x := -a * 2 + b) (by omega) (by omega)]
   rw [Int.tdiv_eq_ediv_of_nonneg (by omega)];have q0 : 0 ≤ (-a * 2 + b) / (2 * b) := Int.ediv_nonneg (by omega) (by omega);have q1 : (-a * 2 + b) / (2 * b) ≤ -a * 2 + b := Int.ediv_le_self _ (by omega);rw [w64 (x := _ / _) (by omega) (by omega),w64 (by omega) (by omega)]
   have e : -a * 2 + b = -2 * a + b := by omega
   rw [e]
 · rw [if_neg h,if_neg h,w1,if_neg (by omega),w64 (x := a * 2) (by omega) (by omega),w64 (x := a * 2 + b) (by omega) (by omega)]
   rw [Int.tdiv_eq_ediv_of_nonneg (by omega)];have q0 : 0 ≤ (a * 2 + b) / (2 * b) := Int.ediv_nonneg (by omega) (by omega);have q1 : (a * 2 + b) / (2 * b) ≤ a * 2 + b := Int.ediv_le_self _ (by omega);rw [w64 (x := _ / _) (by omega) (by omega)]
   have e : a * 2 + b = 2 * a + b := by omega
   rw [e]
end Go.Proofs.Ytomlfbmfdoallaa.Pure

namespace Go.Proofs.Ytomlfbmfdoallaa.Pure
open Go.RowKit Go.Proofs.Ytomlfbmfdoallaa.PA Go.Proofs.YtomlfbmfdoallaaW.PrintWords Go.Proofs.YtomlfbmfdoallaaW.PrintLast
set_option linter.unusedVariables false
set_option linter.unusedSimpArgs false
theorem rd56 (l : List S56) (i : Nat) (h : i < l.length) : Ze l (i : Int) = l[i] := by simp [Ze,h]
def cvL : Option S56 → List S56 → Bool
 | _,[] => true
 | p,t :: r => okC t && (match p with | none => true | some q => decide (q.f0 < t.f0)) && (match r.head? with | none => true | some t2 => decide (t.f2 ≠ 2) || decide (wrap64 (t2.f0 - t.f0) ≤ 1000)) && cvL (some t) r
theorem QJ (l : List S56) (i : Nat) (h : i < l.length) : (if i + 1 = 0 then none else l[i + 1 - 1]?) = some l[i] := by simp [h]
theorem refc_loop (l : List S56) (hl : l.length ≤ 200) : ∀ (d k i : Nat),l.length - i = d → i ≤ l.length → 2 * d < k → Zg.l0 k l (i : Int) = some (cvL (if i = 0 then none else l[i - 1]?) (l.drop i) && (decide (1 ≤ l.length) && decide (l.length ≤ 100))) := by
 intro d
 induction d with
 | zero =>
  intro k i hd hi hk
  obtain ⟨k,rfl⟩ : ∃ m,k = m + 1 := ⟨k - 1,by omega⟩
  rw [Zg.l0.eq_2];rw [if_neg (by omega),List.drop_eq_nil_of_le (by omega)]
  by_cases h1 : 1 ≤ l.length
  · rw [if_pos (by omega)]
    by_cases h2 : l.length ≤ 100
    · simp [cvL,h1,h2];omega
    · simp [cvL,h1,h2];omega
  · rw [if_neg (by omega)];simp [cvL,h1]
 | succ d ih =>
  intro k i hd hi hk
  obtain ⟨k,rfl⟩ : ∃ m,k = m + 1 + 1 := ⟨k - 2,by omega⟩
  have hlt : i < l.length := by omega
  have hih := ih k (i + 1) (by omega) (by omega) (by omega);rw [QJ l i hlt] at hih
  have hw : wrap64 ((i : Int) + 1) = ((i + 1 : Nat) : Int) := by rw [w64 (by omega) (by omega)];omega
  generalize (decide (1 ≤ l.length) && decide (l.length ≤ 100)) = E at hih ⊢
  have hj : ∀ b : Bool,Zg.j1 (k + 1) l (i : Int) b l[i].f0 l[i].f1 l[i].f2 = some (!b && ((match (l.drop (i + 1)).head? with | none => true | some t2 => decide (l[i].f2 ≠ 2) || decide (wrap64 (t2.f0 - l[i].f0) ≤ 1000)) && cvL (some l[i]) (l.drop (i + 1))) && E) := by
   intro b;rw [Zg.j1.eq_2,hw,hih,show (l.drop (i + 1)).head? = l[i + 1]? by simp]
   cases b with
   | true => rfl
   | false =>
    rw [if_neg (by simp)]
    by_cases h1 : l[i].f2 = 2
    · rw [if_pos h1]
      by_cases h2 : i + 1 < l.length
      · rw [if_pos (by omega),if_pos (by omega),rd56 l (i + 1) h2,List.getElem?_eq_getElem h2]
        by_cases h3 : wrap64 (l[i + 1].f0 - l[i].f0) ≤ 1000
        · rw [if_neg (by omega)];simp [h1,h3]
        · rw [if_pos (by omega)];simp [h1,h3]
      · rw [if_neg (by omega),List.getElem?_eq_none (by omega)]
        simp
    · rw [if_neg h1]
      by_cases h2 : i + 1 < l.length
      · rw [List.getElem?_eq_getElem h2];simp [h1]
      · rw [List.getElem?_eq_none (by omega)];simp
  rw [Zg.l0.eq_2];rw [if_pos (by omega),if_pos (by omega),rd56 l i hlt];simp only [hj];rw [List.drop_eq_getElem_cons hlt];simp only [cvL];generalize hM : ((match (l.drop (i + 1)).head? with | none => true | some t2 => decide (l[i].f2 ≠ 2) || decide (wrap64 (t2.f0 - l[i].f0) ≤ 1000))) = M;generalize hR : cvL (some l[i]) (l.drop (i + 1)) = R
  by_cases h0 : i = 0
  · subst h0
    rw [if_neg (show ¬ (((0 : Nat) : Int) > 0) by omega)];simp only [okC,if_true];clear hM hR hj hih ih;generalize l[0] = m
    repeat' split
    all_goals (first | (simp_all;done) | (simp_all;omega) | (simp_all;intros;exfalso;omega) | (congr 1;rw [Bool.eq_iff_iff];simp only [Bool.and_eq_true,decide_eq_true_eq] at *;cases M <;> cases R <;> cases E <;> simp <;> omega))
  · have hw2 : wrap64 ((i : Int) - 1) = ((i - 1 : Nat) : Int) := by rw [w64 (by omega) (by omega)];omega
    rw [if_pos (show (i : Int) > 0 by omega),hw2,if_pos (show (0 : Int) ≤ ((i - 1 : Nat) : Int) by omega),if_pos (show ((i - 1 : Nat) : Int) < (l.length : Int) by omega),rd56 l (i - 1) (by omega)];rw [if_neg h0,List.getElem?_eq_getElem (show i - 1 < l.length by omega)];simp only [okC];clear hM hR hj hih ih;generalize l[i - 1] = q;generalize l[i] = m
    repeat' split
    all_goals (first | (simp_all;done) | (simp_all;omega) | (simp_all;intros;exfalso;omega) | (congr 1;rw [Bool.eq_iff_iff];simp only [Bool.and_eq_true,decide_eq_true_eq] at *;cases M <;> cases R <;> cases E <;> simp <;> omega))
theorem c_loop (l : List S56) (hl : l.length ≤ 200) : ∀ (d k i : Nat),l.length - i = d → i ≤ l.length → 2 * d < k → Zk.l0 k l l (l.length : Int) (i : Int) = some (cvL (if i = 0 then none else l[i - 1]?) (l.drop i)) := by
 intro d
 induction d with
 | zero =>
  intro k i hd hi hk
  obtain ⟨k,rfl⟩ : ∃ m,k = m + 1 := ⟨k - 1,by omega⟩
  rw [Zk.l0.eq_2];rw [if_neg (by omega),List.drop_eq_nil_of_le (by omega)];rfl
 | succ d ih =>
  intro k i hd hi hk
  obtain ⟨k,rfl⟩ : ∃ m,k = m + 1 + 1 := ⟨k - 2,by omega⟩
  have hlt : i < l.length := by omega
  have hih := ih k (i + 1) (by omega) (by omega) (by omega);rw [QJ l i hlt] at hih
  have hw : wrap64 ((i : Int) + 1) = ((i + 1 : Nat) : Int) := by rw [w64 (by omega) (by omega)];omega
  have hj : ∀ b : Bool,Zk.j1 (k + 1) l (i : Int) l (l.length : Int) (i : Int) b l[i].f0 l[i].f1 l[i].f2 = some (!b && ((match (l.drop (i + 1)).head? with | none => true | some t2 => decide (l[i].f2 ≠ 2) || decide (wrap64 (t2.f0 - l[i].f0) ≤ 1000)) && cvL (some l[i]) (l.drop (i + 1)))) := by
   intro b;rw [Zk.j1.eq_2,hw,hih,show (l.drop (i + 1)).head? = l[i + 1]? by simp]
   cases b with
   | true => rfl
   | false =>
    rw [if_neg (by simp)]
    by_cases h1 : l[i].f2 = 2
    · rw [if_pos h1]
      by_cases h2 : i + 1 < l.length
      · rw [if_pos (by omega),if_pos (by omega),rd56 l (i + 1) h2,List.getElem?_eq_getElem h2]
        by_cases h3 : wrap64 (l[i + 1].f0 - l[i].f0) ≤ 1000
        · rw [if_neg (by omega)];simp [h1,h3]
        · rw [if_pos (by omega)];simp [h1,h3]
      · rw [if_neg (by omega),List.getElem?_eq_none (by omega)]
        simp
    · rw [if_neg h1]
      by_cases h2 : i + 1 < l.length
      · rw [List.getElem?_eq_getElem h2];simp [h1]
      · rw [List.getElem?_eq_none (by omega)];simp
  rw [Zk.l0.eq_2];rw [if_pos (by omega),if_pos (by omega),if_pos (by omega),rd56 l i hlt];simp only [hj];rw [List.drop_eq_getElem_cons hlt];simp only [cvL,Z1.eq,Option.bind_some];generalize hM : ((match (l.drop (i + 1)).head? with | none => true | some t2 => decide (l[i].f2 ≠ 2) || decide (wrap64 (t2.f0 - l[i].f0) ≤ 1000))) = M;generalize hR : cvL (some l[i]) (l.drop (i + 1)) = R
  by_cases h0 : i = 0
  · subst h0
    rw [if_neg (show ¬ (((0 : Nat) : Int) > 0) by omega)];simp only [okC,if_true];clear hM hR hj hih ih;generalize l[0] = m
    repeat' split
    all_goals (first | (simp_all;done) | (simp_all;omega) | (simp_all;intros;exfalso;omega) | (congr 1;rw [Bool.eq_iff_iff];simp only [Bool.and_eq_true,decide_eq_true_eq] at *;cases M <;> cases R <;> simp <;> omega))
  · have hw2 : wrap64 ((i : Int) - 1) = ((i - 1 : Nat) : Int) := by rw [w64 (by omega) (by omega)];omega
    rw [if_pos (show (i : Int) > 0 by omega),hw2,if_pos (show (0 : Int) ≤ ((i - 1 : Nat) : Int) by omega),if_pos (show ((i - 1 : Nat) : Int) < (l.length : Int) by omega),rd56 l (i - 1) (by omega)];rw [if_neg h0,List.getElem?_eq_getElem (show i - 1 < l.length by omega)];simp only [okC];clear hM hR hj hih ih;generalize l[i - 1] = q;generalize l[i] = m
    repeat' split
    all_goals (first | (simp_all;done) | (simp_all;omega) | (simp_all;intros;exfalso;omega) | (congr 1;rw [Bool.eq_iff_iff];simp only [Bool.and_eq_true,decide_eq_true_eq] at *;cases M <;> cases R <;> simp <;> omega))
theorem YF : ∀ (l : List S56) (p : Option S56),cvL p l = (curveFromB l && (match p,l.head? with | some q,some t => decide (q.f0 < t.f0) | _,_ => true))
 | [],p => by cases p <;> rfl
 | [t],p => by
  cases p with
  | none => simp [cvL,curveFromB]
  | some q => simp [cvL,curveFromB]
 | t :: t2 :: r,p => by
  have ih := YF (t2 :: r) (some t);have e : cvL p (t :: t2 :: r) = (okC t && (match p with | none => true | some q => decide (q.f0 < t.f0)) && (decide (t.f2 ≠ 2) || decide (wrap64 (t2.f0 - t.f0) ≤ 1000)) && cvL (some t) (t2 :: r)) := rfl;rw [e,ih]
  have key : ∀ P : Bool,(okC t && P && (decide (t.f2 ≠ 2) || decide (wrap64 (t2.f0 - t.f0) ≤ 1000)) && (curveFromB (t2 :: r) && decide (t.f0 < t2.f0))) = (okC t && decide (t.f0 < t2.f0) && (decide (t.f2 ≠ 2) || decide (t2.f0 - t.f0 ≤ 1000)) && curveFromB (t2 :: r) && P) := by
   intro P
   by_cases hr : curveFromB (t2 :: r) = true
   · by_cases ht : okC t = true
     · have o2 := (Qr t2).1 (XU hr)
       have o1 := (Qr t).1 ht;rw [w64 (by omega) (by omega)];generalize okC t = A;generalize curveFromB (t2 :: r) = B;generalize decide (t.f0 < t2.f0) = D;generalize (decide (t.f2 ≠ 2) || decide (t2.f0 - t.f0 ≤ 1000)) = F
       cases A <;> cases B <;> cases D <;> cases F <;> cases P <;> rfl
     · simp [ht]
   · simp [hr]
  cases p with
  | none => exact key true
  | some q => exact key (decide (q.f0 < t.f0))
theorem refc_eq (l : List S56) (hl : l.length ≤ 200) : Zg.f 410 l = some (curveB l) := by
 unfold Zg.f curveB;have := refc_loop l hl l.length 410 0 (by omega) (by omega) (by omega);simp only [if_true,List.drop_zero] at this;rw [show ((0 : Nat) : Int) = 0 from rfl,YF] at this;rw [this];simp only [Bool.and_true];rw [Bool.and_comm]
theorem c_eq (l : List S56) (hl : l.length ≤ 200) : Zk.f 410 l = some (curveB l) := by
 unfold Zk.f curveB;simp only [Z1.eq,Option.bind_some]
 by_cases h : 1 ≤ l.length ∧ l.length ≤ 100
 · rw [if_pos (by simp;omega)]
   have := c_loop l hl l.length 410 0 (by omega) (by omega) (by omega);simp only [if_true,List.drop_zero] at this;rw [show ((0 : Nat) : Int) = 0 from rfl,YF] at this;rw [this];simp [h.1,h.2]
 · rw [if_neg (by simp;omega)]
   congr 1
   by_cases h1 : 1 ≤ l.length
   · simp [h1,show ¬ l.length ≤ 100 by omega]
   · simp [h1]
end Go.Proofs.Ytomlfbmfdoallaa.Pure

namespace Go.Proofs.Ytomlfbmfdoallaa.PA
open Go.RowKit Go.Shelf Go.Sort Go.Proofs.YtomlfbmfdoallaaW.PrintWords Go.Proofs.YtomlfbmfdoallaaW.PrintLast
set_option linter.unusedVariables false
set_option linter.unusedSimpArgs false
def shpF : List S56 → Int → Int → Int
 | [],_,out => out
 | p :: r,at_,out => shpF r at_ (if p.f0 ≤ at_ ∧ r ≠ [] then p.f2 else if p.f0 ≤ at_ then 0 else out)
def shpAt (l : List S56) (at_ : Int) : Int := shpF l at_ 0
theorem shape_loop (l : List S56) (hl : l.length ≤ 200) (at_ : Int) : ∀ (d k i : Nat) (out : Int),l.length - i = d → i ≤ l.length → 2 * d + 2 < k → ZS.l0 k l at_ out l (l.length : Int) (i : Int) = some (shpF (l.drop i) at_ out) := by
 intro d
 induction d with
 | zero =>
  intro k i out hd hi hk
  obtain ⟨k,rfl⟩ : ∃ q,k = q + 1 := ⟨k - 1,by omega⟩
  rw [ZS.l0.eq_2,if_neg (by omega),List.drop_eq_nil_of_le (by omega)];rfl
 | succ d ih =>
  intro k i out hd hi hk
  obtain ⟨k,rfl⟩ : ∃ q,k = q + 2 := ⟨k - 2,by omega⟩
  have hlt : i < l.length := by omega
  have hrd : Ze l (i : Int) = l[i] := by simp [Ze,hlt]
  rw [ZS.l0.eq_2,if_pos (by omega),if_pos (by omega),if_pos (by omega),hrd,List.drop_eq_getElem_cons hlt];unfold shpF;have hw : wrap64 ((i : Int) + 1) = ((i + 1 : Nat) : Int) := (w64 (by omega) (by omega)).trans (by omega)
  have hne : l.drop (i + 1) ≠ [] ↔ i + 1 < l.length := by
   constructor
   · intro h
     refine Classical.byContradiction fun hn => h (List.drop_eq_nil_of_le (by omega))
   · intro h e
     have := congrArg List.length e;simp at this;omega
  by_cases h1 : l[i].f0 ≤ at_
  · rw [if_pos h1,ZS.j1.eq_2,hw]
    by_cases h2 : i + 1 < l.length
    · rw [if_pos (decide_eq_true (by omega)),if_pos ⟨h1,hne.2 h2⟩]
      exact ih k (i + 1) _ (by omega) (by omega) (by omega)
    · rw [if_neg (by simp;omega),if_pos h1,if_neg (fun h => h2 (hne.1 h.2)),if_pos h1]
      exact ih k (i + 1) _ (by omega) (by omega) (by omega)
  · rw [if_neg h1,ZS.j1.eq_2,hw,if_neg (by decide),if_neg h1,if_neg (fun h => h1 h.1),if_neg h1]
    exact ih k (i + 1) _ (by omega) (by omega) (by omega)
theorem shape_fn (l : List S56) (hl : l.length ≤ 200) (at_ : Int) : ZS.f 500 l at_ = some (shpAt l at_) := by
 unfold ZS.f shpAt;have := shape_loop l hl at_ l.length 500 0 0 (by omega) (by omega) (by omega)
 simpa using this
def ptsR (l : List S56) : Nat → Int → List S56
 | 0,_ => []
 | d + 1,t => ⟨t,valAt l t,0⟩ :: ptsR l d (t + 1)
def cutGo (l : List S56) : List Int → List S56 → Option (List S56)
 | [],out => some out
 | [t],out => some (out ++ [⟨t,valAt l t,0⟩])
 | t :: e :: r,out =>
  if shpAt l t ≠ 2 ∨ (isT l t = true ∧ isT l e = true) then cutGo l (e :: r) (out ++ [⟨t,valAt l t,shpAt l t⟩])
  else if e - t > 20 then none else cutGo l (e :: r) (out ++ ptsR l (e - t).toNat t)
def inC (a b : Int) (p : S56) : Bool := decide (a < p.f0) && decide (p.f0 < b)
def midsC (l : List S56) (a b : Int) : List Int := (l.filter (inC a b)).map (·.f0)
def marksC (l : List S56) (a b : Int) : List Int := Lib.compact (sortI ([a,b] ++ midsC l a b))
def endC : Option (List S56) → List S56 × Int
 | none => ([],4)
 | some out => if out.length > 100 then ([],4) else (out,0)
def cutR (l : List S56) (a b : Int) : List S56 × Int :=
 if curveB l = true then (if (0 ≤ a ∧ a ≤ 1000000000) ∧ a ≤ b ∧ b ≤ 1000000000 then endC (cutGo l (marksC l a b) []) else ([],7)) else ([],1)
def XJ.f (l0 : List S56) (a1 a2 : Int) : Option (List S56 × Int) := if l0.length ≤ 200 then some (cutR l0 a1 a2) else none
def fl3 (out : List S56) : List Value := out.flatMap fun x => [.int .i64 x.f0,.int .i64 x.f1,.int .i64 x.f2]
theorem Y7 (out : List S56) (x : S56) : fl3 (out ++ [x]) = fl3 out ++ [.int .i64 x.f0,.int .i64 x.f1,.int .i64 x.f2] := by simp [fl3]
theorem Qy (l : List S56) (a b : Int) (i : Nat) (h : i < l.length) : midsC (l.take (i + 1)) a b = midsC (l.take i) a b ++ if inC a b l[i] = true then [l[i].f0] else [] := by
 unfold midsC;rw [List.take_succ_eq_append_getElem h,List.filter_append,List.map_append]
 congr 1
 by_cases hc : inC a b l[i] = true
 · simp [hc]
 · simp [hc]
theorem Yr (l : List S56) (a b : Int) : (midsC l a b).length ≤ l.length := by
 unfold midsC;rw [List.length_map];exact List.length_filter_le _ _
theorem own_new2 (W : World) (base : Nat) (a b : Int) (h : base ≤ W.heap.size) : (W.alloc (.cells #[.int .i64 a,.int .i64 b] 3)).ownsRow base 3 1 (.slice (some ⟨W.heap.size,0,none⟩) 2 2) 2 (mk3 [a,b]) :=
 ⟨rfl,.inr ⟨W.heap.size,2,_,rfl,h,World.alloc_heap_new W _,Nat.le_refl _,by decide,rfl,rfl⟩⟩
theorem reps_fl3 (W : World) (base : Nat) (ok : Nat → Prop) : ∀ (l : List S56),Reps (k56.M W base ok) 3 l (fl3 l) := by
 intro l
 have key : ∀ (r a : List S56),Reps (k56.M W base ok) 3 a (fl3 a) → Reps (k56.M W base ok) 3 (a ++ r) (fl3 (a ++ r)) := by
  intro r
  induction r with
  | nil => intro a h;simpa using h
  | cons x r ih =>
   intro a h
   have h1 : Reps (k56.M W base ok) 3 (a ++ [x]) (fl3 (a ++ [x])) := by
    rw [Y7];exact h.snoc (Q2 W base ok x) rfl
   have := ih (a ++ [x]) h1
   simpa using this
 simpa using key l [] (Reps.none _ _)
theorem kd_of_row3 {W : World} {base : Nat} {v : Value} {l : List S56} (h : W.ownsRow base 56 3 v l.length (fl3 l)) : Kd.R k56 56 W base (fun _ => True) v l := by
 refine ⟨fun _ _ => trivial,?_⟩;exact ⟨fl3 l,h,reps_fl3 _ _ _ l⟩
end Go.Proofs.Ytomlfbmfdoallaa.PA

namespace Go.Proofs.Ytomlfbmfdoallaa.PA
open Go.RowKit Go.Shelf Go.Sort Go.Proofs.YtomlfbmfdoallaaW.PrintWords Go.Proofs.YtomlfbmfdoallaaW.PrintLast Go.Proofs.YtomlfbmfdoallaaW.PrintMore
set_option linter.unusedVariables false
set_option linter.unusedSimpArgs false
theorem rd56 (l : List S56) (i : Nat) (h : i < l.length) : Ze l (i : Int) = l[i] := by simp [Ze,h]
theorem XS (a lo hi : Int) : Z1.f a lo hi = some (decide (lo ≤ a ∧ a ≤ hi)) := by
 unfold Z1.f
 by_cases h : lo ≤ a
 · rw [if_pos h];simp [h]
 · rw [if_neg h];simp [h]
theorem Qn {w w' : World} (h : Drawn0 w w') : ∃ n,w' = w.drewN n := by
 obtain ⟨n,h⟩ := h;exact ⟨n,h⟩
def MarkRow (W : World) (base : Nat) (v : Value) (zs : List Int) : Prop := W.ownsRow base 3 1 v zs.length (mk3 zs)
theorem one_cell (W : World) (v : Value) (t : TypeId) (n : Nat) (hn : n = W.heap.size) : ∀ (j : Nat) (u : Value),[v][j]? = some u → (W.alloc (.cells #[v] t)).cell? ((⟨n,0,none⟩ : Addr).add j) = some u := by
 intro j u h;subst hn
 match j,h with
 | 0,h => cases h;exact (Blk.new W #[v] t).cell 0 rfl
theorem mark_more {W' : World} {base : Nat} {v' : Value} {zs : List Int} {x : Int} (h : W'.ownsRow base 3 1 v' (zs.length + 1) (mk3 zs ++ [.int .i64 x])) : MarkRow W' base v' (zs ++ [x]) := by
 unfold MarkRow
 have e : mk3 (zs ++ [x]) = mk3 zs ++ [.int .i64 x] := by simp
 rw [e,List.length_append];exact h
def MkR (w : World) (l0 : List S56) (A0 : Option Addr) (c0 : Nat) (a b : Int) (v8 v36 : Value) (wr : World) : Prop :=
 ∃ k : Nat,v36 = .int .i64 k ∧ k ≤ l0.length ∧ Below w.heap.size w wr ∧ Blk wr w.heap.size #[.slice A0 l0.length c0] 45 ∧ MarkRow wr (w.heap.size + 1) v8 ([a,b] ++ midsC (l0.take k) a b)
theorem XW {w W W' : World} {row : Option Nat} (h : Below w.heap.size w W) (hg : W.grownBy W' row) (hr : ∀ k,row = some k → w.heap.size ≤ k) : Below w.heap.size w W' :=
 ⟨hg.os.trans h.os,hg.tape.trans h.tape,hg.output.trans h.output,Nat.le_trans h.size hg.size,fun k hk => (hg.block k (Nat.lt_of_lt_of_le hk h.size) (fun e => absurd (hr k e.symm) (by omega))).trans (h.block k hk)⟩
theorem Qs {W W' : World} {row : Option Nat} {b : Nat} {cs : Array Value} {t : TypeId} (h : Blk W b cs t) (hg : W.grownBy W' row) (hr : ∀ k,row = some k → k ≠ b) : Blk W' b cs t :=
 h.same (hg.block b h.lt (fun e => hr b e.symm rfl))
theorem Yd {W : World} {base : Nat} {e : TypeId} {size : Nat} {v : Value} {n : Nat} {xs : List Value} (h : W.ownsRow base e size v n xs) : ∀ k,v.ownBlock = some k → base ≤ k := fun k hk => (h.lt k hk).1
theorem compact_mem {zs : List Int} {x : Int} (h : x ∈ Lib.compact zs) : x ∈ zs := by
 unfold Lib.compact Lib.compactUpTo at h;rw [List.mem_map] at h;obtain ⟨i,hi,rfl⟩ := h;rw [List.mem_filter,List.mem_range] at hi
 have : zs.toArray[i]! = zs[i]'hi.1 := by simp [hi.1]
 rw [this];exact List.getElem_mem _
theorem compact_ne {zs : List Int} (h : zs ≠ []) : Lib.compact zs ≠ [] := by
 intro e;unfold Lib.compact Lib.compactUpTo at e;rw [List.map_eq_nil_iff,List.filter_eq_nil_iff] at e;have hl : 0 < zs.length := List.length_pos_iff.2 h;exact e 0 (List.mem_range.2 hl) (by simp [Lib.keeps])
theorem sortI_mem {zs : List Int} {x : Int} : x ∈ sortI zs ↔ x ∈ zs := by simp [sortI]
theorem marksC_mem {l : List S56} {a b x : Int} (ha : 0 ≤ a ∧ a ≤ 1000000000) (hb : a ≤ b ∧ b ≤ 1000000000) (h : x ∈ marksC l a b) : 0 ≤ x ∧ x ≤ 1000000000 := by
 have h1 := sortI_mem.1 (compact_mem h);simp only [List.mem_append,List.mem_cons,List.not_mem_nil,or_false,midsC,List.mem_map,List.mem_filter,inC,Bool.and_eq_true,decide_eq_true_eq] at h1
 rcases h1 with (rfl | rfl) | ⟨p,⟨_,h2,h3⟩,rfl⟩ <;> omega
theorem below_grown {w w' : World} (h : Below w.heap.size w w') : w.grownBy w' none := ⟨h.os,h.tape,h.output,h.size,fun k hk _ => h.block k hk⟩
theorem Yo {W W' : World} {base : Nat} {e : TypeId} {size : Nat} {v : Value} {n : Nat} {xs : List Value} (h : W.ownsRow base e size v n xs) (hb : Below W.heap.size W W') : W'.ownsRow base e size v n xs := by
 refine h.kept (below_grown hb) ?_
 cases v.ownBlock with
 | none => exact .inl rfl
 | some q => exact .inr (by simp)
theorem Qq {W : World} {base g cap : Nat} {zs : List Int} (h : W.ownsRow base 3 1 (.slice (some ⟨g,0,none⟩) zs.length cap) zs.length (mk3 zs)) (i : Nat) (hi : i < zs.length) : W.cell? ⟨g,i,none⟩ = some (.int .i64 zs[i]) := by
 rcases h.2 with ⟨e,_⟩ | ⟨g',cap',cur,e,_,hgb,hn,_,hcs,ht⟩
 · cases e
 cases e
 rw [Nat.mul_one] at ht hcs
 have hc : cur[i]? = some (.int .i64 zs[i]) := by
  have h1 : (cur.toList.take zs.length)[i]? = some (.int .i64 zs[i]) := by rw [ht];simp [hi]
  rw [List.getElem?_take,if_pos hi] at h1
  simpa using h1
 simp [World.cell?,hgb,hc]
theorem XR {W : World} {base : Nat} {e : TypeId} {size : Nat} {v : Value} {n : Nat} {xs : List Value} (h : W.ownsRow base e size v n xs) : ∃ A c,v = .slice A n c := by
 rcases h.2 with ⟨rfl,rfl⟩ | ⟨g,cap,cur,rfl,_⟩
 · exact ⟨_,_,rfl⟩
 · exact ⟨_,_,rfl⟩
theorem own_lower {W : World} {b1 b2 : Nat} {e : TypeId} {size : Nat} {v : Value} {n : Nat} {xs : List Value} (h : W.ownsRow b2 e size v n xs) (hb : b1 ≤ b2) : W.ownsRow b1 e size v n xs := by
 refine ⟨h.1,?_⟩
 rcases h.2 with h2 | ⟨g,cap,cur,e,hg,r⟩
 · exact .inl h2
 · exact .inr ⟨g,cap,cur,e,Nat.le_trans hb hg,r⟩
structure WS (w : World) (l0 : List S56) (A0 : Option Addr) (c0 g cap : Nat) (ms : List Int) (B2 : Nat) (v12 : Value) (out : List S56) (wr : World) : Prop where
 B : Below w.heap.size w wr
 K : Blk wr w.heap.size #[.slice A0 l0.length c0] 45
 M : wr.ownsRow (w.heap.size + 1) 3 1 (.slice (some ⟨g,0,none⟩) ms.length cap) ms.length (mk3 ms)
 O : wr.ownsRow B2 56 3 v12 out.length (fl3 out)
 z : B2 ≤ wr.heap.size
 gz : g < B2
section
variable {w wr w' : World} {l0 : List S56} {A0 : Option Addr} {c0 g cap : Nat} {ms : List Int} {B2 : Nat} {v12 : Value} {out : List S56}
theorem WS.wz (h : WS w l0 A0 c0 g cap ms B2 v12 out wr) : w.heap.size < g := by have := Yd h.M g rfl;omega
theorem WS.call (h : WS w l0 A0 c0 g cap ms B2 v12 out wr) (hb : Below wr.heap.size wr w') : WS w l0 A0 c0 g cap ms B2 v12 out w' :=
 ⟨h.B.trans (hb.mono h.B.size),h.K.Xv hb,Yo h.M hb,Yo h.O hb,Nat.le_trans h.z hb.size,h.gz⟩
theorem WS.alloc (h : WS w l0 A0 c0 g cap ms B2 v12 out wr) (o : Obj) : WS w l0 A0 c0 g cap ms B2 v12 out (wr.alloc o) := h.call ((Below.refl _ _).alloc (Nat.le_refl _) o)
theorem WS.drewN (h : WS w l0 A0 c0 g cap ms B2 v12 out wr) (n : Nat) : WS w l0 A0 c0 g cap ms B2 v12 out (wr.drewN n) := h.call (Za (Below.refl _ _) n)
theorem WS.drew (h : WS w l0 A0 c0 g cap ms B2 v12 out wr) : WS w l0 A0 c0 g cap ms B2 v12 out wr.drew := h.call (Zb (Below.refl _ _))
theorem WS.app (h : WS w l0 A0 c0 g cap ms B2 v12 out wr) {v' : Value} {x : S56} (hg : wr.grownBy w' v12.ownBlock) (ho : w'.ownsRow B2 56 3 v' (out.length + 1) (fl3 out ++ [.int .i64 x.f0,.int .i64 x.f1,.int .i64 x.f2])) : WS w l0 A0 c0 g cap ms B2 v' (out ++ [x]) w' := by
 have hr : ∀ q,v12.ownBlock = some q → B2 ≤ q := Yd h.O;have h1 := h.wz;have h2 := h.gz;refine ⟨XW h.B hg (fun q hq => by have := hr q hq;omega),Qs h.K hg (fun q hq => by have := hr q hq;omega),?_,?_,Nat.le_trans h.z hg.size,h.gz⟩
 · refine h.M.kept hg (.inr ?_)
   intro hh;have := hr g hh.symm;omega
 · rw [List.length_append,Y7]
   exact ho
theorem XP (W : World) (x y z : Value) (t : TypeId) (n : Nat) (hn : n = W.heap.size) : ∀ (j : Nat) (u : Value),[x,y,z][j]? = some u → (W.alloc (.cells #[x,y,z] t)).cell? ((⟨n,0,none⟩ : Addr).add j) = some u := by
 intro j u h;subst hn
 match j,h with
 | 0,h => cases h;exact (Blk.new W #[x,y,z] t).cell 0 rfl
 | 1,h => cases h;simp only [Addr.add,Nat.zero_add];exact (Blk.new W #[x,y,z] t).cell 1 (v := y) rfl
 | 2,h => cases h;simp only [Addr.add,Nat.zero_add];exact (Blk.new W #[x,y,z] t).cell 2 (v := z) rfl
theorem Qw {l : List S56} {t e : Int} {r : List Int} {out : List S56} (h : shpAt l t ≠ 2 ∨ (isT l t = true ∧ isT l e = true)) : cutGo l (t :: e :: r) out = cutGo l (e :: r) (out ++ [⟨t,valAt l t,shpAt l t⟩]) := by
 rw [cutGo.eq_3,if_pos h]
theorem Qz {l : List S56} {t e : Int} {r : List Int} {out : List S56} (h : ¬ (shpAt l t ≠ 2 ∨ (isT l t = true ∧ isT l e = true))) (hd : e - t > 20) : cutGo l (t :: e :: r) out = none := by
 rw [cutGo.eq_3,if_neg h,if_pos hd]
theorem QC {l : List S56} {t e : Int} {r : List Int} {out : List S56} (h : ¬ (shpAt l t ≠ 2 ∨ (isT l t = true ∧ isT l e = true))) (hd : ¬ e - t > 20) : cutGo l (t :: e :: r) out = cutGo l (e :: r) (out ++ ptsR l (e - t).toNat t) := by
 rw [cutGo.eq_3,if_neg h,if_neg hd]
def InR (w : World) (l0 : List S56) (A0 : Option Addr) (c0 g cap : Nat) (ms : List Int) (B2 : Nat) (t : Int) (D n : Nat) (fin : List S56) (v12 v14 : Value) (wr : World) : Prop :=
 ∃ (j : Nat) (out : List S56),v14 = .int .i64 (t + j) ∧ j ≤ D ∧ out.length ≤ n + j ∧ WS w l0 A0 c0 g cap ms B2 v12 out wr ∧ out ++ ptsR l0 (D - j) (t + j) = fin
def LpR (w : World) (l0 : List S56) (A0 : Option Addr) (c0 g cap : Nat) (ms : List Int) (B2 : Nat) (v12 v63 : Value) (wr : World) : Prop :=
 ∃ (i : Nat) (out : List S56),v63 = .int .i64 i ∧ i < ms.length ∧ out.length ≤ 20 * i ∧ WS w l0 A0 c0 g cap ms B2 v12 out wr ∧ cutGo l0 ms [] = cutGo l0 (ms.drop i) out
end
set_option maxRecDepth 100000 in
set_option maxHeartbeats 4000000 in
theorem cut_walk (A0 : Option Addr) (c0 : Nat) (l0 : List S56) (a b : Int) (w : World) (hr0 : Kd.C k56 w A0 l0.length l0) (hc0 : l0.length ≤ c0) (hcv : curveB l0 = true) (ha : 0 ≤ a ∧ a ≤ 1000000000) (hb : a ≤ b ∧ b ≤ 1000000000) :
 Calls Try.prog 38 #[.slice A0 l0.length c0,.int .i64 a,.int .i64 b] w fun e w' => ∃ v0_ : Value,e = .returned (.tuple #[v0_,.int .i64 (cutR l0 a b).2]) ∧ Kd.R k56 56 w' w.heap.size (fun _ => True) v0_ (cutR l0 a b).1 ∧ Below w.heap.size w w' := by
 have hlen : 1 ≤ l0.length ∧ l0.length ≤ 100 := by
  simp only [curveB,Bool.and_eq_true,decide_eq_true_eq] at hcv;exact ⟨hcv.1.1,hcv.1.2⟩
 have HR := Lib.hid hr0;have HV := Lib.hid (hcv);clear hr0 hcv
 have HVC := fun W h => Lib.hid (Zk.calls 410 A0 c0 l0 true W h hc0 (by rw [Pure.c_eq l0 (by omega),HV.out]))
 have HW1 := fun W => Lib.hid (Z1.calls a 0 1000000000 true W (by rw [XS,decide_eq_true ha]))
 have HW2 := fun W => Lib.hid (Z1.calls b a 1000000000 true W (by rw [XS,decide_eq_true hb]))
 obtain ⟨i0,hi,hz0,hz1,hz2⟩ := info_parts info3;obtain ⟨j0,hj,hy0,hy1,hy2⟩ := info_parts info56
 go_enter Try.func38,Try.ntmps38
 go_wp2_with (fail)
 refine (HVC _ (Kd.Z8 HR.out _)).out.mono ?_;rintro e w1 ⟨rfl,hb1⟩;have HB := Zd.mk (((Below.refl _ w).alloc (Nat.le_refl _) (.cells #[.slice A0 l0.length c0] 45)).trans (hb1.mono (by simp)));have HK := Zd.mk ((Blk.new w #[.slice A0 l0.length c0] 45).Xv hb1)
 have hz : w.heap.size + 1 ≤ w1.heap.size := by have := hb1.size;simpa using this
 clear hb1
 go_wp2_with (fail)
 refine (HW1 _).out.mono ?_;rintro e w2 ⟨rfl,hd2⟩;obtain ⟨d2,rfl⟩ := Qn hd2
 go_wp2_with (fail)
 refine (HW2 _).out.mono ?_;rintro e w3 ⟨rfl,hd3⟩;obtain ⟨d3,rfl⟩ := Qn hd3;have HB2 := Zd.mk (Za (Za HB.out d2) d3);have HK2 := Zd.mk (show Blk ((w1.drewN d2).drewN d3) w.heap.size #[.slice A0 l0.length c0] 45 from HK.out);have hz2 : w.heap.size + 1 ≤ ((w1.drewN d2).drewN d3).heap.size := hz
 generalize (w1.drewN d2).drewN d3 = w4 at *
 clear HB HK hz HW1 HW2 HVC;have hc4 := HK2.out.cell 0 (v := .slice A0 l0.length c0) rfl
 have hlt4 : w.heap.size < w4.heap.size := by omega
 go_wp2_with (fail)
 go_loopw [8,36] (MkR w l0 A0 c0 a b) (fun _ v36 _ => l0.length - (intOf v36).toNat)
 case atStart =>
  exact ⟨0,rfl,Nat.zero_le _,HB2.out.alloc (HB2.out.size) _,HK2.out.alloc _,own_new2 w4 (w.heap.size + 1) a b hz2⟩
 case round =>
  obtain ⟨k,rfl,hk,hB,hK,hM⟩ := hrel;have HB := Zd.mk hB;have HK := Zd.mk hK;have HM := Zd.mk hM;clear hB hK hM hc4 HB2 HK2 hz2
  by_cases hlt : k < l0.length
  · have hltz : (k : Int) < (l0.length : Int) := by omega
    obtain ⟨ad,eA,hx0,hx1,hx2⟩ := Xg (Kd.ZK HR.out HB.out) (k : Int) (by omega) (by omega)
    cases eA
    simp only [Int.toNat_natCast] at hx0 hx1 hx2;generalize hy : Ze l0 (k : Int) = y at hx0 hx1 hx2;have HY := Zd.mk hy;clear hy
    by_cases h1 : y.f0 > a
    · have t1 : decide (y.f0 > a) = true := decide_eq_true h1
      by_cases h2 : y.f0 < b
      · have t2 : decide (y.f0 < b) = true := decide_eq_true h2
        have hn : ([a,b] ++ midsC (l0.take k) a b).length ≤ 102 := by
         have h1 := Yr (l0.take k) a b;have h2 : (l0.take k).length ≤ k := List.length_take_le _ _;simp only [List.length_append,List.length_cons,List.length_nil];omega
        have hin : inC a b y = true := by simp only [inC,Bool.and_eq_true,decide_eq_true_eq];omega
        have HIN := Zd.mk hin;have HI := Zd.mk hi;clear h1 h2 hin
        obtain ⟨zs,hzs⟩ : ∃ zs,[a,b] ++ midsC (l0.take k) a b = zs := ⟨_,rfl⟩
        rw [hzs] at HM hn;have HO8 := Zd.mk (show World.ownsRow wr (w.heap.size + 1) 3 1 _ zs.length (mk3 zs) from HM.out);clear HM;have HZ := Zd.mk hzs;clear hzs
        go_wp2_with (at_builtin;refine wpList_append_own _ rfl (.tmp 50) (.tmp 53) 46 rfl (w.heap.size + 1) 3 i0 (.int .i64 0) 1 8 Try.underlying46 hi hz0 hz1 hz2 rfl (by decide) u8 zs.length (mk3 zs) rfl ((HO8.out.alloc _).alloc _) ⟨wr.heap.size + 1,0,none⟩ 1 1 [.int .i64 y.f0] rfl rfl ?c1 ?c2 ?c3 ?c4 ?c5 ?_;(case c1 => refine one_cell _ _ _ _ ?_;simp);(case c2 => intro u hu;simp only [List.mem_singleton] at hu;subst hu;rfl);(case c3 => unfold maxLen;omega);(case c4 => omega);(case c5 => have := HK.out.lt;simp;omega);intro v' w5 hown hg _;have HO := Zd.mk hown;have HG := Zd.mk hg;clear hown hg)
        go_roundw
        case rel =>
         have hG1 := HG.out;have hb5 := XW ((HB.out.alloc HB.out.size _).alloc (by simp;have := HB.out.size;omega) _) hG1 (fun q hq => by have := Yd HO8.out q hq;omega);have hk5 := Qs ((HK.out.alloc _).alloc _) hG1 (fun q hq => by have := Yd HO8.out q hq;omega);refine ⟨k + 1,by go_num,by omega,hb5,hk5,?_⟩;rw [Qy l0 a b k hlt,← rd56 _ _ hlt,HY.out,if_pos HIN.out,← List.append_assoc,HZ.out];exact mark_more HO.out
        case measure => simp [intOf];omega
      · have t2 : decide (y.f0 < b) = false := decide_eq_false h2
        have HIN := Zd.mk (show inC a b y = false by simp only [inC,Bool.and_eq_false_iff,decide_eq_false_iff_not];omega);clear h1 h2
        go_wp2_with (fail)
        go_roundw
        case rel =>
         refine ⟨k + 1,by go_num,by omega,HB.out.alloc HB.out.size _,HK.out.alloc _,?_⟩;rw [Qy l0 a b k hlt,← rd56 _ _ hlt,HY.out,if_neg (by rw [HIN.out];decide),List.append_nil];exact HM.out.alloc _
        case measure => simp [intOf];omega
    · have t1 : decide (y.f0 > a) = false := decide_eq_false h1
      have HIN := Zd.mk (show inC a b y = false by simp only [inC,Bool.and_eq_false_iff,decide_eq_false_iff_not];omega);clear h1
      go_wp2_with (fail)
      go_roundw
      case rel =>
       refine ⟨k + 1,by go_num,by omega,HB.out.alloc HB.out.size _,HK.out.alloc _,?_⟩;rw [Qy l0 a b k hlt,← rd56 _ _ hlt,HY.out,if_neg (by rw [HIN.out];decide),List.append_nil];exact HM.out.alloc _
      case measure => simp [intOf];omega
  · obtain rfl : k = l0.length := by omega
    have hM2 : MarkRow wr (w.heap.size + 1) u8 ([a,b] ++ midsC l0 a b) := by have h := HM.out;rw [List.take_length] at h;exact h
    have hn : ([a,b] ++ midsC l0 a b).length ≤ 102 ∧ 2 ≤ ([a,b] ++ midsC l0 a b).length := by
     have h1 := Yr l0 a b;simp only [List.length_append,List.length_cons,List.length_nil];omega
    obtain ⟨zs,hzs⟩ : ∃ zs,[a,b] ++ midsC l0 a b = zs := ⟨_,rfl⟩
    rw [hzs] at hM2 hn;have HZ := Zd.mk hzs;clear hzs HM
    obtain ⟨g,cap,rfl⟩ : ∃ g cap,u8 = .slice (some ⟨g,0,none⟩) zs.length cap := by
     rcases hM2.2 with ⟨_,e⟩ | ⟨g,cap,cur,e,_⟩
     · omega
     · exact ⟨g,cap,e⟩
    have HO8 := Zd.mk (show World.ownsRow wr (w.heap.size + 1) 3 1 _ zs.length (mk3 zs) from hM2);clear hM2;have HS := Lib.hid (sort_own HO8.out (by omega))
    go_wp2_with (go_at_call 59;refine HS.out.mono ?_;rintro e w5 ⟨rfl,hg5,ho5⟩)
    have hgb : w.heap.size + 1 ≤ g := Yd HO8.out g rfl;have HB5 := Zd.mk (XW HB.out hg5 (fun q hq => by cases hq;omega));have HK5 := Zd.mk (Qs HK.out hg5 (fun q hq => by cases hq;omega))
    have hsl : (sortI zs).length = zs.length := by simp [sortI]
    have HO5 := Zd.mk (show World.ownsRow w5 (w.heap.size + 1) 3 1 (.slice (some ⟨g,0,none⟩) (sortI zs).length cap) (sortI zs).length (mk3 (sortI zs)) by rw [hsl];exact ho5);clear hg5 ho5 HB HK HO8 HS;have HCm := Lib.hid (compact_own HO5.out (by rw [hsl];omega));rw [hsl] at HCm;refine HCm.out.mono ?_;rintro e w6 ⟨rfl,hg6,ho6⟩;have HB6 := Zd.mk (XW HB5.out hg6 (fun q hq => by cases hq;omega));have HK6 := Zd.mk (Qs HK5.out hg6 (fun q hq => by cases hq;omega));have HO6 := Zd.mk ho6;clear hg6 ho6 HB5 HK5 HO5 HCm
    have hM0 : marksC l0 a b = Lib.compact (sortI zs) := by unfold marksC;rw [HZ.out]
    have HME := Zd.mk hM0
    have hml : (Lib.compact (sortI zs)).length ≤ 102 := by have := Lib.compact_length_le (sortI zs);omega
    have hm0 : 0 < (Lib.compact (sortI zs)).length := List.length_pos_iff.2 (compact_ne (fun e => by rw [e] at hsl;simp at hsl;omega));have hmm := Lib.hid (fun x (hx : x ∈ Lib.compact (sortI zs)) => marksC_mem (l := l0) (x := x) ha hb (by rw [hM0];exact hx));clear hM0
    generalize Lib.compact (sortI zs) = ms at *
    have hws : WS w l0 A0 c0 g cap ms w6.heap.size (.slice none 0 0) [] w6 :=
     ⟨HB6.out,HK6.out,HO6.out,⟨rfl,.inl ⟨rfl,rfl⟩⟩,Nat.le_refl _,(HO6.out.lt g rfl).2⟩
    generalize w6.heap.size = B2 at hws;clear HB6 HK6 HO6 hn hsl
    (try clear hd2); (try clear hd3); (try clear hlt4)
    go_wp2_with (fail)
    go_loopw [12,63] (LpR w l0 A0 c0 g cap ms B2) (fun _ v63 _ => ms.length - (intOf v63).toNat)
    case atStart => exact ⟨0,[],rfl,hm0,by simp,hws,rfl⟩
    case round =>
     clear hws;obtain ⟨i,out,rfl,hi2,hol,hS,hgo⟩ := hrel;have HS := Zd.mk hS;have HGO := Zd.mk hgo;clear hS hgo;have hci := Qq HS.out.M i hi2;have hti := hmm.out ms[i] (List.getElem_mem _);have HDR := Zd.mk (List.drop_eq_getElem_cons hi2)
     generalize ms[i] = t at *
     obtain ⟨ht0,ht1⟩ := hti;have hbx := HS.out.K.cell 0 (v := .slice A0 l0.length c0) rfl
     have HV57 := fun W h => Lib.hid (Xt.calls A0 c0 l0 t (valAt l0 t) W h hc0 (by unfold Xt.f;rw [if_pos ⟨HV.out,ht0,ht1⟩]))
     by_cases hlast : i + 1 = ms.length
     · have tl : (((i : Int) + 1) == (ms.length : Int)) = true := by rw [beq_iff_eq];omega
       have hiz : (i : Int) < (ms.length : Int) := by omega
       go_wp2_with (fail)
       refine (HV57 _ (Kd.ZK HR.out HS.out.B)).out.mono ?_;rintro e w7 ⟨rfl,hb7⟩;have HS7 := Zd.mk (HS.out.call hb7);clear HS HV57 hb7 hci hbx
       have hfin : cutR l0 a b = endC (some (out ++ [⟨t,valAt l0 t,0⟩])) := by
        unfold cutR;rw [if_pos HV.out,if_pos ⟨ha,hb⟩,HME.out,HGO.out,HDR.out,List.drop_eq_nil_of_le (by omega)];rfl
       generalize valAt l0 t = vv at *
       have HF := Zd.mk hfin;clear hfin
       go_wp2_with (at_builtin;refine wpList_append_own _ rfl (.tmp 73) (.tmp 79) 45 rfl B2 56 j0 (.agg #[(.int .i64 0),(.int .i64 0),(.int .i64 0)]) 3 24 Try.underlying45 hj hy0 hy1 hy2 rfl (by decide) u12 out.length (fl3 out) rfl (HS7.out.alloc _).O ⟨w7.heap.size,0,none⟩ 1 1 [.int .i64 t,.int .i64 vv,.int .i64 0] rfl rfl ?c1 ?c2 ?c3 ?c4 ?c5 ?_;(case c1 => refine XP _ _ _ _ _ _ ?_;rfl);(case c2 => intro u hu;simp only [List.mem_cons,List.not_mem_nil,or_false] at hu;rcases hu with rfl | rfl | rfl <;> rfl);(case c3 => unfold maxLen;omega);(case c4 => omega);(case c5 => exact (HS7.out.alloc _).z);intro v' w8 hown hg _;obtain ⟨A8,c8,rfl⟩ := XR hown;have HS8 := Zd.mk ((HS7.out.alloc _).app (x := ⟨t,vv,0⟩) hg hown);clear hown hg HS7)
       · rw [HF.out,endC,if_pos (by rw [List.length_append];simp;omega)]
         go_ret2
         exact ⟨_,rfl,Kd.R_nil _ _ _ _ _,HS8.out.B⟩
       · rw [HF.out,endC,if_neg (by rw [List.length_append];simp;omega)]
         go_ret2
         refine ⟨_,rfl,?_,HS8.out.B⟩;have h2 := own_lower HS8.out.O (show w.heap.size ≤ B2 by have := HS8.out.wz;have := HS8.out.gz;omega);have h3 := kd_of_row3 (l := out ++ [⟨t,vv,0⟩]) h2;exact h3
     · have tl : (((i : Int) + 1) == (ms.length : Int)) = false := by rw [beq_eq_false_iff_ne];omega
       have hiz : (i : Int) < (ms.length : Int) := by omega
       have hi3 : i + 1 < ms.length := by omega
       have hiz1 : (i : Int) + 1 < (ms.length : Int) := by omega
       have hci2 := Qq HS.out.M (i + 1) hi3;have hte := hmm.out ms[i + 1] (List.getElem_mem _);have hdr2 := List.drop_eq_getElem_cons hi3
       obtain ⟨e2,hE2⟩ : ∃ e2,ms[i + 1] = e2 := ⟨_,rfl⟩
       rw [hE2] at hci2 hte hdr2;have HDR2 := Zd.mk hdr2;have HE2 := Zd.mk hE2;clear hdr2 hE2;obtain ⟨he0,he1⟩ := hte
       have HSH := fun W h => Lib.hid (ZS.calls 500 A0 c0 l0 t (shpAt l0 t) W h hc0 (shape_fn l0 (by omega) t))
       obtain ⟨sv,hsv⟩ : ∃ sv,shpAt l0 t = sv := ⟨_,rfl⟩
       rw [hsv] at HSH;have HSV := Zd.mk hsv;clear hsv
       have hnat : ((i : Int) + 1).toNat = i + 1 := by omega
       have hi0 : (0 : Int) ≤ (i : Int) + 1 := by omega
       by_cases hs2 : sv = 2
       · subst hs2
         go_wp2_with (fail)
         have hwi : IntKind.i64.wrap ((i : Int) + 1) = (i : Int) + 1 := (i64_w _).trans (w64 (by omega) (by omega))
         go_region_held3 (fun w' => w'.cell? ⟨w.heap.size,0,none⟩ = some (.slice A0 l0.length c0) ∧ w'.cell? ⟨g,i + 1,none⟩ = some (.int .i64 e2)) (simp [go_sem, *])
          (first | (go_at_call 64;refine (HSH _ (by exact Kd.ZK HR.out (by first | exact HS.out.B | exact Za HS.out.B _ | exact Zb HS.out.B))).out.mono ?_;rintro e w7 ⟨rfl,hb7⟩;have HS7 := Zd.mk (WS.call (by first | exact HS.out | exact HS.out.drewN _ | exact HS.out.drew) hb7);clear hci hci2 hbx HS hb7;have hci2 := Qq HS7.out.M (i + 1) hi3;rw [HE2.out] at hci2;have hbx := HS7.out.K.cell 0 (v := .slice A0 l0.length c0) rfl))
         clear hci2 hwi hi0 hnat HSH
         have HIS := fun W hb hr => Lib.hid (Y0 l0 t A0 c0 w.heap.size W hb hr)
         have HIE := fun W hb hr => Lib.hid (Y0 l0 e2 A0 c0 w.heap.size W hb hr)
         cases hq1 : isT l0 t with
         | false =>
          rw [hq1] at HIS;have HQ1 := Zd.mk hq1;clear hq1
          go_wp2_with (fail)
          refine (HIS _ hbx (Kd.ZK HR.out HS7.out.B)).out.mono ?_;rintro e w9 ⟨rfl,hb9⟩;have HS9 := Zd.mk (HS7.out.call hb9);clear HS7 hb9 hbx HIS HIE;have hbx := HS9.out.K.cell 0 (v := .slice A0 l0.length c0) rfl;have HN := Zd.mk (show ¬ (shpAt l0 t ≠ 2 ∨ (isT l0 t = true ∧ isT l0 e2 = true)) by rw [HSV.out,HQ1.out];simp)
          by_cases hd : e2 - t > 20
          · have hfin : cutR l0 a b = ([],4) := by
             unfold cutR;rw [if_pos HV.out,if_pos ⟨ha,hb⟩,HME.out,HGO.out,HDR.out,HDR2.out,Qz HN.out hd];rfl
            have HF := Zd.mk hfin;clear hfin
            go_wp2_with (fail)
            rw [HF.out]
            go_ret2
            exact ⟨_,rfl,Kd.R_nil _ _ _ _ _,HS9.out.B⟩
          · have hfin : cutGo l0 ms [] = cutGo l0 (ms.drop (i + 1)) (out ++ ptsR l0 (e2 - t).toNat t) := by
             rw [HGO.out,HDR.out,HDR2.out,QC HN.out hd]
            obtain ⟨D,hD⟩ : ∃ D : Nat,(e2 - t).toNat = D := ⟨_,rfl⟩
            rw [hD] at hfin
            have hD20 : D ≤ 20 := by omega
            have HD := Zd.mk hD;have HF := Zd.mk hfin;clear hfin hD
            go_wp2_with (fail)
            obtain ⟨wo,hwo⟩ : ∃ wo : World,wo = wr := ⟨_,rfl⟩
            have hHS := Zd.mk (show InR w l0 A0 c0 g cap ms B2 t D (20 * i) (out ++ ptsR l0 D t) u12 (.int .i64 t) _ from ⟨0,out,by simp,Nat.zero_le _,by omega,HS9.out,by simp⟩);clear HS9 HV57 hbx hwo
            go_loopw [12,14] (InR w l0 A0 c0 g cap ms B2 t D (20 * i) (out ++ ptsR l0 D t)) (fun _ v14 _ => (e2 - intOf v14).toNat)
            case atStart => exact hHS.out
            case round =>
             clear hHS;obtain ⟨j,out2,rfl,hjD,hol2,hS2,hpt⟩ := hrel;have HS2 := Zd.mk hS2;have HPT := Zd.mk hpt;clear hS2 hpt;have hDD : D = (e2 - t).toNat := HD.out.symm
             by_cases hlt : j < D
             · have hltz : t + (j : Int) < e2 := by omega
               have hj0 : 0 ≤ t + (j : Int) := by omega
               have hj1 : t + (j : Int) ≤ 1000000000 := by omega
               have hpt : (out2 ++ [⟨t + (j : Int),valAt l0 (t + (j : Int)),0⟩]) ++ ptsR l0 (D - (j + 1)) (t + ((j + 1 : Nat) : Int)) = out ++ ptsR l0 D t := by
                rw [← HPT.out,show D - j = (D - (j + 1)) + 1 by omega,ptsR.eq_2,List.append_assoc,show t + (j : Int) + 1 = t + ((j + 1 : Nat) : Int) by omega];rfl
               clear hDD
               have HV2 := fun W h => Lib.hid (Xt.calls A0 c0 l0 (t + (j : Int)) (valAt l0 (t + (j : Int))) W h hc0 (by unfold Xt.f;rw [if_pos ⟨HV.out,hj0,hj1⟩]))
               have hbx := HS2.out.K.cell 0 (v := .slice A0 l0.length c0) rfl
               generalize valAt l0 (t + (j : Int)) = vv at *
               have HP2 := Zd.mk hpt;clear hpt
               obtain ⟨x,hx⟩ : ∃ x : Int,t + (j : Int) = x := ⟨_,rfl⟩
               rw [hx] at HV2 HP2 hltz hj0 hj1 ⊢;have HX := Zd.mk hx;clear hx
               go_wp2_with (fail)
               refine (HV2 _ (Kd.ZK HR.out HS2.out.B)).out.mono ?_;rintro e w9 ⟨rfl,hb9⟩;have HS9 := Zd.mk (HS2.out.call hb9);clear HS2 HV2 hb9 hbx;have hx1 : wrap64 (x + 1) = x + 1 := w64 (by omega) (by omega)
               go_wp2_with (at_builtin;refine wpList_append_own _ rfl (.tmp 119) (.tmp 125) 45 rfl B2 56 j0 (.agg #[(.int .i64 0),(.int .i64 0),(.int .i64 0)]) 3 24 Try.underlying45 hj hy0 hy1 hy2 rfl (by decide) u12 out2.length (fl3 out2) rfl (HS9.out.alloc _).O ⟨w9.heap.size,0,none⟩ 1 1 [.int .i64 x,.int .i64 vv,.int .i64 0] rfl rfl ?c1 ?c2 ?c3 ?c4 ?c5 ?_;(case c1 => refine XP _ _ _ _ _ _ ?_;rfl);(case c2 => intro u hu;simp only [List.mem_cons,List.not_mem_nil,or_false] at hu;rcases hu with rfl | rfl | rfl <;> rfl);(case c3 => unfold maxLen;omega);(case c4 => omega);(case c5 => exact (HS9.out.alloc _).z);intro v' w8 hown hg _;obtain ⟨A8,c8,rfl⟩ := XR hown;have HS8 := Zd.mk ((HS9.out.alloc _).app (x := ⟨x,vv,0⟩) hg hown);clear hown hg HS9)
               clear hx1;have hx2 := HX.out
               go_roundw
               case rel => exact ⟨j + 1,_,by rw [← hx2];congr 1;omega,by omega,by rw [List.length_append];simp;omega,HS8.out,HP2.out⟩
               case measure => simp [intOf];omega
             · have hltz : ¬ t + (j : Int) < e2 := by omega
               go_wp2_with (fail)
               have hj : D - j = 0 := by omega
               have hp : out2 = out ++ ptsR l0 D t := by have h := HPT.out;rw [hj,ptsR.eq_1,List.append_nil] at h;exact h
               go_roundw
               case rel => exact ⟨i + 1,_,by go_num,hi3,by omega,HS2.out,by rw [hp];exact HF.out⟩
               case measure => simp [intOf];omega
         | true =>
          rw [hq1] at HIS;have HQ1 := Zd.mk hq1;clear hq1
          go_wp2_with (fail)
          refine (HIS _ hbx (Kd.ZK HR.out HS7.out.B)).out.mono ?_;rintro e w9 ⟨rfl,hb9⟩;have HS9 := Zd.mk (HS7.out.call hb9);clear HS7 hb9 hbx HIS;have hbx := HS9.out.K.cell 0 (v := .slice A0 l0.length c0) rfl
          cases hq2 : isT l0 e2 with
          | false =>
           rw [hq2] at HIE;have HQ2 := Zd.mk hq2;clear hq2
           go_wp2_with (fail)
           refine (HIE _ hbx (Kd.ZK HR.out HS9.out.B)).out.mono ?_;rintro e w10 ⟨rfl,hb10⟩;have HS10 := Zd.mk (HS9.out.call hb10);clear HS9 hb10 hbx HIE;have hbx := HS10.out.K.cell 0 (v := .slice A0 l0.length c0) rfl;have HN := Zd.mk (show ¬ (shpAt l0 t ≠ 2 ∨ (isT l0 t = true ∧ isT l0 e2 = true)) by rw [HSV.out,HQ2.out];simp)
           by_cases hd : e2 - t > 20
           · have hfin : cutR l0 a b = ([],4) := by
              unfold cutR;rw [if_pos HV.out,if_pos ⟨ha,hb⟩,HME.out,HGO.out,HDR.out,HDR2.out,Qz HN.out hd];rfl
             have HF := Zd.mk hfin;clear hfin
             go_wp2_with (fail)
             rw [HF.out]
             go_ret2
             exact ⟨_,rfl,Kd.R_nil _ _ _ _ _,HS10.out.B⟩
           · have hfin : cutGo l0 ms [] = cutGo l0 (ms.drop (i + 1)) (out ++ ptsR l0 (e2 - t).toNat t) := by
              rw [HGO.out,HDR.out,HDR2.out,QC HN.out hd]
             obtain ⟨D,hD⟩ : ∃ D : Nat,(e2 - t).toNat = D := ⟨_,rfl⟩
             rw [hD] at hfin
             have hD20 : D ≤ 20 := by omega
             have HD := Zd.mk hD;have HF := Zd.mk hfin;clear hfin hD
             go_wp2_with (fail)
             obtain ⟨wo,hwo⟩ : ∃ wo : World,wo = wr := ⟨_,rfl⟩
             have hHS := Zd.mk (show InR w l0 A0 c0 g cap ms B2 t D (20 * i) (out ++ ptsR l0 D t) u12 (.int .i64 t) _ from ⟨0,out,by simp,Nat.zero_le _,by omega,HS10.out,by simp⟩);clear HS10 HV57 hbx hwo
             go_loopw [12,14] (InR w l0 A0 c0 g cap ms B2 t D (20 * i) (out ++ ptsR l0 D t)) (fun _ v14 _ => (e2 - intOf v14).toNat)
             case atStart => exact hHS.out
             case round =>
              clear hHS;obtain ⟨j,out2,rfl,hjD,hol2,hS2,hpt⟩ := hrel;have HS2 := Zd.mk hS2;have HPT := Zd.mk hpt;clear hS2 hpt;have hDD : D = (e2 - t).toNat := HD.out.symm
              by_cases hlt : j < D
              · have hltz : t + (j : Int) < e2 := by omega
                have hj0 : 0 ≤ t + (j : Int) := by omega
                have hj1 : t + (j : Int) ≤ 1000000000 := by omega
                have hpt : (out2 ++ [⟨t + (j : Int),valAt l0 (t + (j : Int)),0⟩]) ++ ptsR l0 (D - (j + 1)) (t + ((j + 1 : Nat) : Int)) = out ++ ptsR l0 D t := by
                 rw [← HPT.out,show D - j = (D - (j + 1)) + 1 by omega,ptsR.eq_2,List.append_assoc,show t + (j : Int) + 1 = t + ((j + 1 : Nat) : Int) by omega];rfl
                clear hDD
                have HV2 := fun W h => Lib.hid (Xt.calls A0 c0 l0 (t + (j : Int)) (valAt l0 (t + (j : Int))) W h hc0 (by unfold Xt.f;rw [if_pos ⟨HV.out,hj0,hj1⟩]))
                have hbx := HS2.out.K.cell 0 (v := .slice A0 l0.length c0) rfl
                generalize valAt l0 (t + (j : Int)) = vv at *
                have HP2 := Zd.mk hpt;clear hpt
                obtain ⟨x,hx⟩ : ∃ x : Int,t + (j : Int) = x := ⟨_,rfl⟩
                rw [hx] at HV2 HP2 hltz hj0 hj1 ⊢;have HX := Zd.mk hx;clear hx
                go_wp2_with (fail)
                refine (HV2 _ (Kd.ZK HR.out HS2.out.B)).out.mono ?_;rintro e w9 ⟨rfl,hb9⟩;have HS9 := Zd.mk (HS2.out.call hb9);clear HS2 HV2 hb9 hbx;have hx1 : wrap64 (x + 1) = x + 1 := w64 (by omega) (by omega)
                go_wp2_with (at_builtin;refine wpList_append_own _ rfl (.tmp 119) (.tmp 125) 45 rfl B2 56 j0 (.agg #[(.int .i64 0),(.int .i64 0),(.int .i64 0)]) 3 24 Try.underlying45 hj hy0 hy1 hy2 rfl (by decide) u12 out2.length (fl3 out2) rfl (HS9.out.alloc _).O ⟨w9.heap.size,0,none⟩ 1 1 [.int .i64 x,.int .i64 vv,.int .i64 0] rfl rfl ?c1 ?c2 ?c3 ?c4 ?c5 ?_;(case c1 => refine XP _ _ _ _ _ _ ?_;rfl);(case c2 => intro u hu;simp only [List.mem_cons,List.not_mem_nil,or_false] at hu;rcases hu with rfl | rfl | rfl <;> rfl);(case c3 => unfold maxLen;omega);(case c4 => omega);(case c5 => exact (HS9.out.alloc _).z);intro v' w8 hown hg _;obtain ⟨A8,c8,rfl⟩ := XR hown;have HS8 := Zd.mk ((HS9.out.alloc _).app (x := ⟨x,vv,0⟩) hg hown);clear hown hg HS9)
                clear hx1;have hx2 := HX.out
                go_roundw
                case rel => exact ⟨j + 1,_,by rw [← hx2];congr 1;omega,by omega,by rw [List.length_append];simp;omega,HS8.out,HP2.out⟩
                case measure => simp [intOf];omega
              · have hltz : ¬ t + (j : Int) < e2 := by omega
                go_wp2_with (fail)
                have hj : D - j = 0 := by omega
                have hp : out2 = out ++ ptsR l0 D t := by have h := HPT.out;rw [hj,ptsR.eq_1,List.append_nil] at h;exact h
                go_roundw
                case rel => exact ⟨i + 1,_,by go_num,hi3,by omega,HS2.out,by rw [hp];exact HF.out⟩
                case measure => simp [intOf];omega
          | true =>
           rw [hq2] at HIE;have HQ2 := Zd.mk hq2;clear hq2
           go_wp2_with (fail)
           refine (HIE _ hbx (Kd.ZK HR.out HS9.out.B)).out.mono ?_;rintro e w10 ⟨rfl,hb10⟩;have HS10 := Zd.mk (HS9.out.call hb10);clear HS9 hb10 hbx HIE;have hbx := HS10.out.K.cell 0 (v := .slice A0 l0.length c0) rfl
           go_wp2_with (fail)
           refine (HV57 _ (Kd.ZK HR.out HS10.out.B)).out.mono ?_;rintro e w9 ⟨rfl,hb9⟩;have HS9 := Zd.mk (HS10.out.call hb9);clear HS10 HV57 hb9 hbx
           have hfin : cutGo l0 ms [] = cutGo l0 (ms.drop (i + 1)) (out ++ [⟨t,valAt l0 t,2⟩]) := by
            rw [HGO.out,HDR.out,HDR2.out,Qw (.inr ⟨HQ1.out,HQ2.out⟩),HSV.out]
           generalize valAt l0 t = vv at *
           have HF := Zd.mk hfin;clear hfin
           go_wp2_with (at_builtin;refine wpList_append_own _ rfl (.tmp 101) (.tmp 108) 45 rfl B2 56 j0 (.agg #[(.int .i64 0),(.int .i64 0),(.int .i64 0)]) 3 24 Try.underlying45 hj hy0 hy1 hy2 rfl (by decide) u12 out.length (fl3 out) rfl (HS9.out.alloc _).O ⟨w9.heap.size,0,none⟩ 1 1 [.int .i64 t,.int .i64 vv,.int .i64 2] rfl rfl ?c1 ?c2 ?c3 ?c4 ?c5 ?_;(case c1 => refine XP _ _ _ _ _ _ ?_;rfl);(case c2 => intro u hu;simp only [List.mem_cons,List.not_mem_nil,or_false] at hu;rcases hu with rfl | rfl | rfl <;> rfl);(case c3 => unfold maxLen;omega);(case c4 => omega);(case c5 => exact (HS9.out.alloc _).z);intro v' w8 hown hg _;obtain ⟨A8,c8,rfl⟩ := XR hown;have HS8 := Zd.mk ((HS9.out.alloc _).app (x := ⟨t,vv,2⟩) hg hown);clear hown hg HS9)
           go_roundw
           case rel => exact ⟨i + 1,_,by go_num,hi3,by rw [List.length_append];simp;omega,HS8.out,HF.out⟩
           case measure => simp [intOf];omega
       · have tn : (sv != 2) = true := by rw [bne_iff_ne];exact hs2
         have HNE := Zd.mk hs2;clear hs2
         go_wp2_with (fail)
         have hwi : IntKind.i64.wrap ((i : Int) + 1) = (i : Int) + 1 := (i64_w _).trans (w64 (by omega) (by omega))
         go_region_held3 (fun w' => w'.cell? ⟨w.heap.size,0,none⟩ = some (.slice A0 l0.length c0) ∧ w'.cell? ⟨g,i + 1,none⟩ = some (.int .i64 e2)) (simp [go_sem, *])
          (first | (go_at_call 64;refine (HSH _ (by exact Kd.ZK HR.out (by first | exact HS.out.B | exact Za HS.out.B _ | exact Zb HS.out.B))).out.mono ?_;rintro e w7 ⟨rfl,hb7⟩;have HS7 := Zd.mk (WS.call (by first | exact HS.out | exact HS.out.drewN _ | exact HS.out.drew) hb7);clear hci hci2 hbx HS hb7;have hci2 := Qq HS7.out.M (i + 1) hi3;rw [HE2.out] at hci2;have hbx := HS7.out.K.cell 0 (v := .slice A0 l0.length c0) rfl))
         clear hci2 hwi hi0 hnat HSH
         go_wp2_with (fail)
         refine (HV57 _ (Kd.ZK HR.out HS7.out.B)).out.mono ?_;rintro e w9 ⟨rfl,hb9⟩;have HS9 := Zd.mk (HS7.out.call hb9);clear HS7 HV57 hb9 hbx
         have hfin : cutGo l0 ms [] = cutGo l0 (ms.drop (i + 1)) (out ++ [⟨t,valAt l0 t,sv⟩]) := by
          rw [HGO.out,HDR.out,HDR2.out,Qw (.inl (by rw [HSV.out];exact HNE.out)),HSV.out]
         generalize valAt l0 t = vv at *
         have HF := Zd.mk hfin;clear hfin
         go_wp2_with (at_builtin;refine wpList_append_own _ rfl (.tmp 101) (.tmp 108) 45 rfl B2 56 j0 (.agg #[(.int .i64 0),(.int .i64 0),(.int .i64 0)]) 3 24 Try.underlying45 hj hy0 hy1 hy2 rfl (by decide) u12 out.length (fl3 out) rfl (HS9.out.alloc _).O ⟨w9.heap.size,0,none⟩ 1 1 [.int .i64 t,.int .i64 vv,.int .i64 sv] rfl rfl ?c1 ?c2 ?c3 ?c4 ?c5 ?_;(case c1 => refine XP _ _ _ _ _ _ ?_;rfl);(case c2 => intro u hu;simp only [List.mem_cons,List.not_mem_nil,or_false] at hu;rcases hu with rfl | rfl | rfl <;> rfl);(case c3 => unfold maxLen;omega);(case c4 => omega);(case c5 => exact (HS9.out.alloc _).z);intro v' w8 hown hg _;obtain ⟨A8,c8,rfl⟩ := XR hown;have HS8 := Zd.mk ((HS9.out.alloc _).app (x := ⟨t,vv,sv⟩) hg hown);clear hown hg HS9)
         go_roundw
         case rel => exact ⟨i + 1,_,by go_num,hi3,by rw [List.length_append];simp;omega,HS8.out,HF.out⟩
         case measure => simp [intOf];omega
set_option maxRecDepth 100000 in
theorem XJ.calls (A0 : Option Addr) (c0 : Nat) (l0 : List S56) (a1 a2 : Int) (r1 : List S56) (r2 : Int) (w : World) (hr0 : Kd.C k56 w A0 l0.length l0) (hc0 : l0.length ≤ c0) (h : XJ.f l0 a1 a2 = some (r1,r2)) :
 Calls Try.prog 38 #[.slice A0 l0.length c0,.int .i64 a1,.int .i64 a2] w fun e w' => ∃ v0_ : Value,e = .returned (.tuple #[v0_,.int .i64 r2]) ∧ Kd.R k56 56 w' w.heap.size (fun _ => True) v0_ r1 ∧ Below w.heap.size w w' := by
 unfold XJ.f at h
 by_cases hl : l0.length ≤ 200
 · rw [if_pos hl] at h
   obtain rfl : r1 = (cutR l0 a1 a2).1 := (congrArg Prod.fst (Option.some.inj h)).symm;obtain rfl : r2 = (cutR l0 a1 a2).2 := (congrArg Prod.snd (Option.some.inj h)).symm;clear h;have HR := Lib.hid hr0;clear hr0
   cases hcv : curveB l0 with
   | false =>
    have hfin : cutR l0 a1 a2 = ([],1) := by unfold cutR;rw [hcv];rfl
    have HF := Zd.mk hfin
    have HVC := fun W h => Lib.hid (Zk.calls 410 A0 c0 l0 false W h hc0 (by rw [Pure.c_eq l0 (by omega),hcv]))
    clear hfin hcv
    go_enter Try.func38,Try.ntmps38
    go_wp2_with (fail)
    refine (HVC _ (Kd.Z8 HR.out _)).out.mono ?_;rintro e w1 ⟨rfl,hb1⟩;have HB := Zd.mk (((Below.refl _ w).alloc (Nat.le_refl _) (.cells #[.slice A0 l0.length c0] 45)).trans (hb1.mono (by simp)));clear hb1 HVC
    go_wp2_with (fail)
    rw [HF.out]
    go_ret2
    exact ⟨_,rfl,Kd.R_nil _ _ _ _ _,HB.out⟩
   | true =>
    by_cases hg : (0 ≤ a1 ∧ a1 ≤ 1000000000) ∧ a1 ≤ a2 ∧ a2 ≤ 1000000000
    · exact cut_walk A0 c0 l0 a1 a2 w HR.out hc0 hcv hg.1 hg.2
    · have hfin : cutR l0 a1 a2 = ([],7) := by unfold cutR;rw [if_pos hcv,if_neg hg]
      have HF := Zd.mk hfin
      have HVC := fun W h => Lib.hid (Zk.calls 410 A0 c0 l0 true W h hc0 (by rw [Pure.c_eq l0 (by omega),hcv]))
      clear hfin hcv
      by_cases ha : 0 ≤ a1 ∧ a1 ≤ 1000000000
      · have HW1 := fun W => Lib.hid (Z1.calls a1 0 1000000000 true W (by rw [XS,decide_eq_true ha]))
        have HW2 := fun W => Lib.hid (Z1.calls a2 a1 1000000000 false W (by rw [XS,decide_eq_false (fun hb => hg ⟨ha,hb⟩)]))
        clear hg ha
        go_enter Try.func38,Try.ntmps38
        go_wp2_with (fail)
        refine (HVC _ (Kd.Z8 HR.out _)).out.mono ?_;rintro e w1 ⟨rfl,hb1⟩;have HB := Zd.mk (((Below.refl _ w).alloc (Nat.le_refl _) (.cells #[.slice A0 l0.length c0] 45)).trans (hb1.mono (by simp)));clear hb1 HVC
        go_wp2_with (fail)
        refine (HW1 _).out.mono ?_;rintro e w2 ⟨rfl,hd2⟩;obtain ⟨d2,rfl⟩ := Qn hd2
        go_wp2_with (fail)
        refine (HW2 _).out.mono ?_;rintro e w3 ⟨rfl,hd3⟩;obtain ⟨d3,rfl⟩ := Qn hd3
        go_wp2_with (fail)
        rw [HF.out]
        go_ret2
        exact ⟨_,rfl,Kd.R_nil _ _ _ _ _,Za HB.out (d2 + d3)⟩
      · have HW1 := fun W => Lib.hid (Z1.calls a1 0 1000000000 false W (by rw [XS,decide_eq_false ha]))
        clear hg ha
        go_enter Try.func38,Try.ntmps38
        go_wp2_with (fail)
        refine (HVC _ (Kd.Z8 HR.out _)).out.mono ?_;rintro e w1 ⟨rfl,hb1⟩;have HB := Zd.mk (((Below.refl _ w).alloc (Nat.le_refl _) (.cells #[.slice A0 l0.length c0] 45)).trans (hb1.mono (by simp)));clear hb1 HVC
        go_wp2_with (fail)
        refine (HW1 _).out.mono ?_;rintro e w2 ⟨rfl,hd2⟩;obtain ⟨d2,rfl⟩ := Qn hd2
        go_wp2_with (fail)
        rw [HF.out]
        go_ret2
        exact ⟨_,rfl,Kd.R_nil _ _ _ _ _,Za HB.out d2⟩
 · rw [if_neg hl] at h
   cases h
end Go.Proofs.Ytomlfbmfdoallaa.PA

namespace Go.Proofs.Ytomlfbmfdoallaa.PA
open Go.RowKit Go.Proofs.YtomlfbmfdoallaaW.PrintWords Go.Proofs.YtomlfbmfdoallaaW.PrintLast Go.Proofs.YtomlfbmfdoallaaW.PrintMore
attribute [local go_sem] Xf Xe Xj Xk ZV ZU Xd Xc
set_option linter.unusedVariables false
set_option linter.unusedSimpArgs false
end Go.Proofs.Ytomlfbmfdoallaa.PA

namespace Go.Proofs.Ytomlfbmfdoallaa.PA
open Go.RowKit Go.Proofs.YtomlfbmfdoallaaW.PrintWords Go.Proofs.YtomlfbmfdoallaaW.PrintLast Go.Proofs.YtomlfbmfdoallaaW.PrintMore
attribute [local go_sem] Xf Xe Xj Xk ZV ZU Xd Xc
set_option linter.unusedVariables false
set_option linter.unusedSimpArgs false
def ZC.l0 : Nat → List (S56) → Int → Int → Option (Int)
 | 0,_,_,_ => none
 | k + 1,x0,x1,x5 => if (wrap64 (x5 + 1)) < (x0.length : Int) then (if 0 ≤ x5 then (if x5 < (x0.length : Int) then (if ((Ze x0 x5).f0) ≤ x1 then (if 0 ≤ (wrap64 (x5 + 1)) then (if x1 < ((Ze x0 (wrap64 (x5 + 1))).f0) then (some x5) else (ZC.l0 k x0 x1 (wrap64 (x5 + 1)))) else (none)) else (ZC.l0 k x0 x1 (wrap64 (x5 + 1)))) else (none)) else (none)) else (some (-1))
def ZC.f (k : Nat) (l0 : List (S56)) (a1 : Int) : Option (Int) := ZC.l0 k l0 a1 0
theorem ZC.Xm : ∀ k,(∀ y0 y1 y2,LeO (ZC.l0 k y0 y1 y2) (ZC.l0 (k + 1) y0 y1 y2))
 | 0 => fun _ _ _ r h => by simp [ZC.l0] at h
 | k + 1 => by
  have ih0 := ZC.Xm k
  · intro y0 y1 y2
    unfold ZC.l0
    repeat' first
    | (with_reducible exact ih0 _ _ _)
    | (with_reducible exact LeO.refl _)
    | (with_reducible exact LeO.none _)
    | (with_reducible refine LeO.ite ?_ ?_)
    | (with_reducible refine LeO.bind ?_ (fun _ => ?_))
    | exact ih0 _ _ _
    | exact LeO.none _
    | refine LeO.ite ?_ ?_
    | refine LeO.bind ?_ (fun _ => ?_)
theorem ZC.mono : ∀ a0 a1 k,LeO (ZC.f k a0 a1) (ZC.f (k + 1) a0 a1) := by
 intro a0 a1 k;have ih0 := ZC.Xm k;unfold ZC.f
 repeat' first
  | (with_reducible exact ih0 _ _ _)
  | (with_reducible exact LeO.refl _)
  | (with_reducible exact LeO.none _)
  | (with_reducible refine LeO.ite ?_ ?_)
  | (with_reducible refine LeO.bind ?_ (fun _ => ?_))
  | exact ih0 _ _ _
  | exact LeO.none _
  | refine LeO.ite ?_ ?_
  | refine LeO.bind ?_ (fun _ => ?_)
set_option maxHeartbeats 8000000 in
set_option maxRecDepth 100000 in
theorem ZC.calls (k : Nat) (A0 : Option Addr) (c0 : Nat) (l0 : List (S56)) (a1 : Int) (r : Int) (w : World) (hr0 : Kd.C k56 w A0 l0.length l0) (hc0 : l0.length ≤ c0) (h : ZC.f k l0 a1 = some r) :
 Calls Try.prog 65 #[.slice A0 l0.length c0,.int .i64 a1] w fun e w' => e = .returned (.int .i64 r) ∧ Drawn0 w w' := by
 have HR0 := Zd.mk hr0;have HC0 := Zd.mk hc0;clear hr0 hc0;have H : (ZC.l0 k l0 a1 0) = some r := h;clear h;have H' := Zd.mk H;clear H
 go_enter Try.func65,Try.ntmps65
 go_wp2
 go_loopg [5] k (fun kq v5 w' => ∃ (x5_1 : Int),v5 = .int .i64 x5_1 ∧ Zd (ZC.l0 kq l0 a1 x5_1 = some r) ∧ Zd (kq ≤ k) ∧ Drawn0 w w')
 case atStart => exact ⟨(0),(by first | rfl | (simp;done) | (simp [*];done)),H',⟨Nat.le_refl _⟩,by repeat (first | exact Drawn0.refl _ | apply Drawn0.step)⟩
 case round =>
  clear H'
  (try clear p2)
  obtain ⟨x5_1,rfl,HA,HK1,⟨m1,rfl⟩⟩ := hrel
  cases gk with
  | zero => exact absurd HA.out (by simp [ZC.l0])
  | succ k1 =>
   have H := HA.out;clear HA;simp only [ZC.l0] at H
   by_cases c3 : (wrap64 (x5_1 + 1)) < (l0.length : Int)
   · rw [if_pos c3] at H
     have c3b0 : decide ((wrap64 (x5_1 + 1)) < (l0.length : Int)) = true := decide_eq_true c3;clear c3
     by_cases c4 : 0 ≤ x5_1
     · rw [if_pos c4] at H
       have c4b0 : decide (0 ≤ x5_1) = true := decide_eq_true c4;clear c4
       by_cases c5 : x5_1 < (l0.length : Int)
       · rw [if_pos c5] at H
         have c5b0 : decide (x5_1 < (l0.length : Int)) = true := decide_eq_true c5;clear c5
         by_cases c6 : ((Ze l0 x5_1).f0) ≤ a1
         · rw [if_pos c6] at H
           have c6b0 : decide (((Ze l0 x5_1).f0) ≤ a1) = true := decide_eq_true c6;clear c6
           obtain ⟨ji7,hji7⟩ : ∃ j_ : Int,(wrap64 (x5_1 + 1)) = j_ := ⟨_,rfl⟩
           replace H : (if 0 ≤ (ji7) then (if a1 < ((Ze l0 (ji7)).f0) then (some x5_1) else (ZC.l0 k1 l0 a1 ji7)) else (none)) = some r := by first | (rw [hji7] at H;exact H) | (simp only [hji7] at H ⊢;exact H)
           (try rw [hji7] at c3b0)
           have hji7w : (IntKind.i64.wrap (x5_1 + 1)) = ji7 := (i64_w _).trans hji7
           by_cases c8 : 0 ≤ (ji7)
           · rw [if_pos c8] at H
             have c8b0 : decide (0 ≤ (ji7)) = true := decide_eq_true c8;clear c8
             by_cases c9 : a1 < ((Ze l0 (ji7)).f0)
             · rw [if_pos c9] at H
               have c9b0 : decide (a1 < ((Ze l0 (ji7)).f0)) = true := decide_eq_true c9;clear c9;obtain rfl := Option.some.inj H;have p590 : 0 ≤ (x5_1 : Int) := of_decide_eq_true (by first | (with_reducible assumption) | assumption);have q590 : x5_1 < (l0.length : Int) := of_decide_eq_true (by first | (with_reducible assumption) | assumption);obtain ⟨ad590,e590,hx590_0,hx590_1,hx590_2⟩ := Xg HR0.out x5_1 p590 q590
               cases e590
               replace p590 := eq_true p590;replace q590 := eq_true q590;have p591 : 0 ≤ ((ji7) : Int) := of_decide_eq_true (by first | (with_reducible assumption) | assumption);have q591 : (ji7) < (l0.length : Int) := of_decide_eq_true (by first | (with_reducible assumption) | assumption);obtain ⟨ad591,e591,hx591_0,hx591_1,hx591_2⟩ := Xg HR0.out (ji7) p591 q591
               obtain rfl : ad590 = ad591 := (by injection e591)
               replace p591 := eq_true p591;replace q591 := eq_true q591
               go_wp2
               go_ret;exact ⟨by first | rfl | (simp;done) | (simp only [← hji7] <;> (first | rfl | simp)) | (simp [*];done),by repeat (first | exact Drawn0.refl _ | apply Drawn0.step)⟩
             · rw [if_neg c9] at H
               have c9b0 : decide (a1 < ((Ze l0 (ji7)).f0)) = false := decide_eq_false c9;clear c9;have H' := Zd.mk H;clear H;have p590 : 0 ≤ (x5_1 : Int) := of_decide_eq_true (by first | (with_reducible assumption) | assumption);have q590 : x5_1 < (l0.length : Int) := of_decide_eq_true (by first | (with_reducible assumption) | assumption);obtain ⟨ad590,e590,hx590_0,hx590_1,hx590_2⟩ := Xg HR0.out x5_1 p590 q590
               cases e590
               replace p590 := eq_true p590;replace q590 := eq_true q590;have p591 : 0 ≤ ((ji7) : Int) := of_decide_eq_true (by first | (with_reducible assumption) | assumption);have q591 : (ji7) < (l0.length : Int) := of_decide_eq_true (by first | (with_reducible assumption) | assumption);obtain ⟨ad591,e591,hx591_0,hx591_1,hx591_2⟩ := Xg HR0.out (ji7) p591 q591
               obtain rfl : ad590 = ad591 := (by injection e591)
               replace p591 := eq_true p591;replace q591 := eq_true q591
               go_wp2
               go_roundg k1
               case measure => have := HK1.out;omega
               case rel => exact ⟨(ji7),(by first | rfl | (simp;done) | (simp only [← hji7] <;> (first | rfl | simp)) | (simp [*];done)),H',⟨by have := HK1.out;omega⟩,by repeat (first | exact Drawn0.refl _ | apply Drawn0.step)⟩
           · rw [if_neg c8] at H
             exact absurd H (by simp)
         · rw [if_neg c6] at H
           have c6b0 : decide (((Ze l0 x5_1).f0) ≤ a1) = false := decide_eq_false c6;clear c6;have H' := Zd.mk H;clear H;have p590 : 0 ≤ (x5_1 : Int) := of_decide_eq_true (by first | (with_reducible assumption) | assumption);have q590 : x5_1 < (l0.length : Int) := of_decide_eq_true (by first | (with_reducible assumption) | assumption);obtain ⟨ad590,e590,hx590_0,hx590_1,hx590_2⟩ := Xg HR0.out x5_1 p590 q590
           cases e590
           replace p590 := eq_true p590;replace q590 := eq_true q590
           go_wp2
           go_roundg k1
           case measure => have := HK1.out;omega
           case rel => exact ⟨(wrap64 (x5_1 + 1)),(by first | rfl | (simp;done) | (simp [*];done)),H',⟨by have := HK1.out;omega⟩,by repeat (first | exact Drawn0.refl _ | apply Drawn0.step)⟩
       · rw [if_neg c5] at H
         exact absurd H (by simp)
     · rw [if_neg c4] at H
       exact absurd H (by simp)
   · rw [if_neg c3] at H
     have c3b0 : decide ((wrap64 (x5_1 + 1)) < (l0.length : Int)) = false := decide_eq_false c3;clear c3;obtain rfl := Option.some.inj H
     go_wp2
     go_ret;exact ⟨by first | rfl | (simp;done) | (simp [*];done),by repeat (first | exact Drawn0.refl _ | apply Drawn0.step)⟩
end Go.Proofs.Ytomlfbmfdoallaa.PA
