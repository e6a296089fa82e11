/- TempoBlocks, part 4: what the row is built on. -/
import Derived.Test.YtomlfbmfdoallaaCTempoBlocks3
namespace Go.Proofs.Ytomlfbmfdoallaa.PA
open Go.RowKit Go.Proofs.YtomlfbmfdoallaaW.PrintWords Go.Proofs.YtomlfbmfdoallaaW.PrintLast Go.Proofs.YtomlfbmfdoallaaW.PrintMore
attribute [local go_sem] Xf Xg Xo Xn Xa ZZ Xh Xi
set_option linter.unusedVariables false
set_option linter.unusedSimpArgs false
mutual
def Zh.j0 : Nat → List (S27) → Bool → Option (Bool)
 | 0,_,_ => none
 | k + 1,x0,x19 => if x19 = true then (some false) else (Zh.l0 k x0 0)
def Zh.l0 : Nat → List (S27) → Int → Option (Bool)
 | 0,_,_ => none
 | k + 1,x0,x3 => if x3 < (x0.length : Int) then (if 0 ≤ x3 then (if ((Zf x0 x3).f0) < 0 then (Zh.j2 k x0 x3 true ((Zf x0 x3).f0) ((Zf x0 x3).f1) ((Zf x0 x3).f2)) else (if ((Zf x0 x3).f0) > 1000000000 then (Zh.j2 k x0 x3 true ((Zf x0 x3).f0) ((Zf x0 x3).f1) ((Zf x0 x3).f2)) else (if x3 > 0 then (if 0 ≤ (wrap64 (x3 - 1)) then (if (wrap64 (x3 - 1)) < (x0.length : Int) then (if ((Zf x0 x3).f0) ≤ ((Zf x0 (wrap64 (x3 - 1))).f0) then (Zh.j2 k x0 x3 true ((Zf x0 x3).f0) ((Zf x0 x3).f1) ((Zf x0 x3).f2)) else (if ((Zf x0 x3).f1) < 1 then (Zh.j2 k x0 x3 true ((Zf x0 x3).f0) ((Zf x0 x3).f1) ((Zf x0 x3).f2)) else (if ((Zf x0 x3).f1) > 67108864 then (Zh.j2 k x0 x3 true ((Zf x0 x3).f0) ((Zf x0 x3).f1) ((Zf x0 x3).f2)) else (if ((Zf x0 x3).f2) < 0 then (Zh.j2 k x0 x3 true ((Zf x0 x3).f0) ((Zf x0 x3).f1) ((Zf x0 x3).f2)) else (Zh.j2 k x0 x3 (decide (((Zf x0 x3).f2) > 1)) ((Zf x0 x3).f0) ((Zf x0 x3).f1) ((Zf x0 x3).f2)))))) else (none)) else (none)) else (if ((Zf x0 x3).f1) < 1 then (Zh.j2 k x0 x3 true ((Zf x0 x3).f0) ((Zf x0 x3).f1) ((Zf x0 x3).f2)) else (if ((Zf x0 x3).f1) > 67108864 then (Zh.j2 k x0 x3 true ((Zf x0 x3).f0) ((Zf x0 x3).f1) ((Zf x0 x3).f2)) else (if ((Zf x0 x3).f2) < 0 then (Zh.j2 k x0 x3 true ((Zf x0 x3).f0) ((Zf x0 x3).f1) ((Zf x0 x3).f2)) else (Zh.j2 k x0 x3 (decide (((Zf x0 x3).f2) > 1)) ((Zf x0 x3).f0) ((Zf x0 x3).f1) ((Zf x0 x3).f2)))))))) else (none)) else (some true)
def Zh.j2 : Nat → List (S27) → Int → Bool → Int → Int → Int → Option (Bool)
 | 0,_,_,_,_,_,_ => none
 | k + 1,x0,x3,x72,x161000,x161001,x161002 => if x72 = true then (some false) else (if x161002 = 1 then (if x3 = (wrap64 ((x0.length : Int) - 1)) then (some false) else (if 0 ≤ (wrap64 (x3 + 1)) then (if (wrap64 (x3 + 1)) < (x0.length : Int) then (if (wrap64 (((Zf x0 (wrap64 (x3 + 1))).f0) - x161000)) > 10000 then (some false) else (Zh.l0 k x0 (wrap64 (x3 + 1)))) else (none)) else (none))) else (Zh.l0 k x0 (wrap64 (x3 + 1))))
end
def Zh.f (k : Nat) (l0 : List (S27)) : Option (Bool) := if (l0.length : Int) < 1 then (Zh.j0 k l0 true) else (if (l0.length : Int) > 50 then (Zh.j0 k l0 true) else (if 0 < (l0.length : Int) then (Zh.j0 k l0 (((Zf l0 0).f0) != 0)) else (none)))
theorem Zh.Xq : ∀ k,(∀ y0 y1,LeO (Zh.j0 k y0 y1) (Zh.j0 (k + 1) y0 y1)) ∧ (∀ y0 y1,LeO (Zh.l0 k y0 y1) (Zh.l0 (k + 1) y0 y1)) ∧ (∀ y0 y1 y2 y3 y4 y5,LeO (Zh.j2 k y0 y1 y2 y3 y4 y5) (Zh.j2 (k + 1) y0 y1 y2 y3 y4 y5))
 | 0 => ⟨fun _ _ r h => by simp [Zh.j0] at h,fun _ _ r h => by simp [Zh.l0] at h,fun _ _ _ _ _ _ r h => by simp [Zh.j2] at h⟩
 | k + 1 => by
  obtain ⟨ih0,ih1,ih2⟩ := Zh.Xq k; refine ⟨?_,?_,?_⟩
  · intro y0 y1
    unfold Zh.j0
    repeat' first
    | (with_reducible exact ih0 _ _)
    | (with_reducible exact ih1 _ _)
    | (with_reducible exact ih2 _ _ _ _ _ _)
    | (with_reducible exact LeO.refl _)
    | (with_reducible exact LeO.none _)
    | (with_reducible refine LeO.ite ?_ ?_)
    | (with_reducible refine LeO.bind ?_ (fun _ => ?_))
    | exact ih0 _ _
    | exact ih1 _ _
    | exact ih2 _ _ _ _ _ _
    | exact LeO.none _
    | refine LeO.ite ?_ ?_
    | refine LeO.bind ?_ (fun _ => ?_)
  · intro y0 y1
    unfold Zh.l0
    repeat' first
    | (with_reducible exact ih0 _ _)
    | (with_reducible exact ih1 _ _)
    | (with_reducible exact ih2 _ _ _ _ _ _)
    | (with_reducible exact LeO.refl _)
    | (with_reducible exact LeO.none _)
    | (with_reducible refine LeO.ite ?_ ?_)
    | (with_reducible refine LeO.bind ?_ (fun _ => ?_))
    | exact ih0 _ _
    | exact ih1 _ _
    | exact ih2 _ _ _ _ _ _
    | exact LeO.none _
    | refine LeO.ite ?_ ?_
    | refine LeO.bind ?_ (fun _ => ?_)
  · intro y0 y1 y2 y3 y4 y5
    unfold Zh.j2
    repeat' first
    | (with_reducible exact ih0 _ _)
    | (with_reducible exact ih1 _ _)
    | (with_reducible exact ih2 _ _ _ _ _ _)
    | (with_reducible exact LeO.refl _)
    | (with_reducible exact LeO.none _)
    | (with_reducible refine LeO.ite ?_ ?_)
    | (with_reducible refine LeO.bind ?_ (fun _ => ?_))
    | exact ih0 _ _
    | exact ih1 _ _
    | exact ih2 _ _ _ _ _ _
    | exact LeO.none _
    | refine LeO.ite ?_ ?_
    | refine LeO.bind ?_ (fun _ => ?_)
theorem Zh.mono : ∀ a0 k,LeO (Zh.f k a0) (Zh.f (k + 1) a0) := by
 intro a0 k; obtain ⟨ih0,ih1,ih2⟩ := Zh.Xq k; unfold Zh.f
 repeat' first
  | (with_reducible exact ih0 _ _)
  | (with_reducible exact ih1 _ _)
  | (with_reducible exact ih2 _ _ _ _ _ _)
  | (with_reducible exact LeO.refl _)
  | (with_reducible exact LeO.none _)
  | (with_reducible refine LeO.ite ?_ ?_)
  | (with_reducible refine LeO.bind ?_ (fun _ => ?_))
  | exact ih0 _ _
  | exact ih1 _ _
  | exact ih2 _ _ _ _ _ _
  | exact LeO.none _
  | refine LeO.ite ?_ ?_
  | refine LeO.bind ?_ (fun _ => ?_)
set_option maxHeartbeats 8000000 in
set_option maxRecDepth 100000 in
theorem Zh.calls (k : Nat) (A0 : Option Addr) (c0 : Nat) (l0 : List (S27)) (r : Bool) (w : World) (hr0 : Kd.C k27 w A0 l0.length l0) (hc0 : l0.length ≤ c0) (h : Zh.f k l0 = some r) :
 Calls Try.prog 11 #[.slice A0 l0.length c0] w fun e w' => e = .returned (.bool r) ∧ Below w.heap.size w w' := by
 have hu27 := Try.underlying27; have HR0 := Zc.mk hr0; have HC0 := Zc.mk hc0; clear hr0 hc0; have HB := Zc.mk (Below.refl w.heap.size w); have H : (if (l0.length : Int) < 1 then (Zh.j0 k l0 true) else (if (l0.length : Int) > 50 then (Zh.j0 k l0 true) else (if 0 < (l0.length : Int) then (Zh.j0 k l0 (((Zf l0 0).f0) != 0)) else (none)))) = some r := h; clear h; have HC2 := Zc.mk H; clear H
 go_enter Try.func11,Try.ntmps11
 go_upto_region 1 with (fail)
 repeat (go_quiet (fail); go_upto_region 1 with (fail))
 go_cut [19] (fun v19 wc => ∃ (kq : Nat) (x19_1 : Bool),v19 = .bool x19_1 ∧ Zc (Zh.j0 kq l0 x19_1 = some r) ∧ Zc (kq ≤ k) ∧ Zc (Below w.heap.size w wc))
 case first =>
  have H := HC2.out; clear HC2
  by_cases c3 : (l0.length : Int) < 1
  · rw [if_pos c3] at H
    have c3b0 : decide ((l0.length : Int) < 1) = true := decide_eq_true c3; have c3b1 : decide (l0.length < 1) = true := decide_eq_true (by omega); clear c3
    (first | rw [c3b0] | (simp only [i64_w,i32_w]; rw [c3b0]) | skip)
    have H' := Zc.mk H; clear H
    go_wp2
    repeat (go_quiet (fail); try go_wp2)
    go_meet
    case rel => exact ⟨_,(true),(by first | rfl | (simp; done) | (simp [*]; done)),H',⟨by first | omega | exact Nat.le_refl _⟩,⟨by repeat (first | (with_reducible first | exact HB.out | apply Zd | apply Za | apply Zb) | exact HB.out)⟩⟩
  · rw [if_neg c3] at H
    have c3b0 : decide ((l0.length : Int) < 1) = false := decide_eq_false c3; have c3b1 : decide (l0.length < 1) = false := decide_eq_false (by omega); clear c3
    (first | rw [c3b0] | (simp only [i64_w,i32_w]; rw [c3b0]) | skip)
    by_cases c4 : (l0.length : Int) > 50
    · rw [if_pos c4] at H
      have c4b0 : decide (50 < (l0.length : Int)) = true := decide_eq_true c4; have c4b1 : decide (50 < l0.length) = true := decide_eq_true (by omega); clear c4; have H' := Zc.mk H; clear H
      go_wp2
      repeat (go_quiet (fail); try go_wp2)
      go_meet
      case rel => exact ⟨_,(true),(by first | rfl | (simp; done) | (simp [*]; done)),H',⟨by first | omega | exact Nat.le_refl _⟩,⟨by repeat (first | (with_reducible first | exact HB.out | apply Zd | apply Za | apply Zb) | exact HB.out)⟩⟩
    · rw [if_neg c4] at H
      have c4b0 : decide (50 < (l0.length : Int)) = false := decide_eq_false c4; have c4b1 : decide (50 < l0.length) = false := decide_eq_false (by omega); clear c4
      by_cases c5 : 0 < (l0.length : Int)
      · rw [if_pos c5] at H
        have c5b0 : decide (0 < (l0.length : Int)) = true := decide_eq_true c5; have c5b1 : decide (0 < l0.length) = true := decide_eq_true (by omega); clear c5; have H' := Zc.mk H; clear H
        have p158 : 0 ≤ (0 : Int) := (by omega)
        have q158 : 0 < (l0.length : Int) := of_decide_eq_true (by first | (with_reducible assumption) | assumption); obtain ⟨ad158,e158,hx158_0,hx158_1,hx158_2⟩ := Xm HR0.out 0 p158 q158
        cases e158
        have qi158 : (0 < l0.length) = True := eq_true (by omega)
        (try rw [show ((0 : Int)).toNat = 0 from rfl] at hx158_0)
        (try rw [show 0 * 3 = 0 from rfl] at hx158_0)
        (try rw [Addr.add_zero'] at hx158_0)
        (try rw [show ((0 : Int)).toNat = 0 from rfl] at hx158_1)
        (try rw [show 0 * 3 = 0 from rfl] at hx158_1)
        (try rw [Addr.add_zero'] at hx158_1)
        (try rw [show ((0 : Int)).toNat = 0 from rfl] at hx158_2)
        (try rw [show 0 * 3 = 0 from rfl] at hx158_2)
        (try rw [Addr.add_zero'] at hx158_2)
        replace hx158_0 := (HB.out.cell (World.block_lt_of_cell? w _ hx158_0)).trans hx158_0; replace hx158_1 := (HB.out.cell (World.block_lt_of_cell? w _ hx158_1)).trans hx158_1; replace hx158_2 := (HB.out.cell (World.block_lt_of_cell? w _ hx158_2)).trans hx158_2; replace p158 := eq_true p158; replace q158 := eq_true q158
        go_wp2
        repeat (go_quiet (fail); try go_wp2)
        go_meet
        case rel => exact ⟨_,((((Zf l0 0).f0) != 0)),(by first | rfl | (simp; done) | (simp [*]; done)),H',⟨by first | omega | exact Nat.le_refl _⟩,⟨by repeat (first | (with_reducible first | exact HB.out | apply Zd | apply Za | apply Zb) | exact HB.out)⟩⟩
      · rw [if_neg c5] at H
        exact absurd H (by simp)
 case rest =>
  clear HC2
  (try clear c1); (try clear p1); (try clear q1); (try clear hx1); (try clear qi1); (try clear p2); (try clear c3); (try clear c3b0); (try clear c3b1); (try clear c4); (try clear c4b0); (try clear c4b1); (try clear c5); (try clear c5b0); (try clear c5b1); (try clear hx158_0); (try clear hx158_1); (try clear hx158_2); (try clear p158); (try clear q158)
  obtain ⟨kq,x19_1,rfl,HA,HJ1,HB⟩ := hcut
  cases kq with
  | zero => exact absurd HA.out (by simp [Zh.j0])
  | succ kj1 =>
   have H := HA.out; clear HA; simp only [Zh.j0] at H
   by_cases c6 : x19_1 = true
   · subst c6
     have H1 : (some false) = some r := by rw [if_pos rfl] at H; exact H
     clear H; have H := H1; clear H1; obtain rfl := Option.some.inj H
     go_wp2
     repeat (go_quiet (fail); try go_wp2)
     go_ret; exact ⟨by first | rfl | (simp [Zv,Zu] <;> rfl) | (simp [*,Zv,Zu] <;> rfl),by repeat (first | (with_reducible first | exact HB.out | apply Zd | apply Za | apply Zb) | exact HB.out)⟩
   · replace c6 := Bool.eq_false_iff.mpr c6
     subst c6
     have H1 : (Zh.l0 kj1 l0 0) = some r := by rw [if_neg (show ¬ (false = true) by decide)] at H; exact H
     clear H; have H := H1; clear H1; have H' := Zc.mk H; clear H
     go_wp2
     repeat (go_quiet (fail); try go_wp2)
     go_loopg [3] kj1 (fun kq v3 w' => ∃ (x3_2 : Int),v3 = .int .i64 x3_2 ∧ Zc (Zh.l0 kq l0 x3_2 = some r) ∧ Zc (kq ≤ kj1) ∧ Zc (Below w.heap.size w w'))
     case atStart => exact ⟨(0),(by first | rfl | (simp; done) | (simp [*]; done)),H',⟨Nat.le_refl _⟩,⟨by repeat (first | (with_reducible first | exact HB.out | apply Zd | apply Za | apply Zb) | exact HB.out)⟩⟩
     case round =>
      clear H'
      (try clear c1); (try clear p1); (try clear q1); (try clear hx1); (try clear qi1); (try clear p2); (try clear c3); (try clear c3b0); (try clear c3b1); (try clear c4); (try clear c4b0); (try clear c4b1); (try clear c5); (try clear c5b0); (try clear c5b1); (try clear c6); (try clear hx158_0); (try clear hx158_1); (try clear hx158_2); (try clear p1); (try clear p158); (try clear p2); (try clear q1); (try clear q158)
      obtain ⟨x3_2,rfl,HA,HK2,HB⟩ := hrel
      cases gk with
      | zero => exact absurd HA.out (by simp [Zh.l0])
      | succ k2 =>
       have H := HA.out; clear HA; simp only [Zh.l0] at H
       by_cases c7 : x3_2 < (l0.length : Int)
       · rw [if_pos c7] at H
         have c7b0 : decide (x3_2 < (l0.length : Int)) = true := decide_eq_true c7; clear c7
         by_cases c8 : 0 ≤ x3_2
         · rw [if_pos c8] at H
           have c8b0 : decide (0 ≤ x3_2) = true := decide_eq_true c8; clear c8; have HC9 := Zc.mk H; clear H; have p159 : 0 ≤ (x3_2 : Int) := of_decide_eq_true (by first | (with_reducible assumption) | assumption); have q159 : x3_2 < (l0.length : Int) := of_decide_eq_true (by first | (with_reducible assumption) | assumption); obtain ⟨ad159,e159,hx159_0,hx159_1,hx159_2⟩ := Xm HR0.out x3_2 p159 q159
           cases e159
           replace hx159_0 := (HB.out.cell (World.block_lt_of_cell? w _ hx159_0)).trans hx159_0; replace hx159_1 := (HB.out.cell (World.block_lt_of_cell? w _ hx159_1)).trans hx159_1; replace hx159_2 := (HB.out.cell (World.block_lt_of_cell? w _ hx159_2)).trans hx159_2; replace p159 := eq_true p159; replace q159 := eq_true q159
           go_upto_region 7 with (first | ((with_reducible refine Xr (N := 4) rfl ?_); (try (refine XD (by rfl) ?_; dsimp only)); refine X2 ?hg (N := 4) ?hd (cs := #[.int .i64 0,.int .i64 0,.int .i64 0]) (t := 27) ?hr ?_; (case hd => rfl); (case hg => rfl); (case hr => first | (go_simp; done) | (go_simp; rfl)); intro gb160 hg w10 hbox hb; have n0_ := Zc.mk (Z3 (by repeat (first | (with_reducible first | exact HB.out | apply Zd | apply Za | apply Zb) | exact HB.out)) hb); have n1_ := Zc.mk (hbox); have n2_ := Zc.mk ((by rw [hg]; exact (ZH (by repeat (first | (with_reducible first | exact HB.out | apply Zd | apply Za | apply Zb) | exact HB.out))) : w.heap.size ≤ gb160)); have n3_ := Zc.mk ((by rw [hg]; exact (ZH (by repeat (first | (with_reducible first | exact HB.out | apply Zd | apply Za | apply Zb) | exact HB.out))) : w.heap.size ≤ gb160)); clear HB; have HB := n0_; have BK160 := n1_; have GW160 := n2_; have GE160 := n3_; clear n0_ n1_ n2_ n3_; clear hb hbox hg; have hcz11_0 : w10.cell? ⟨gb160,0,none⟩ = some (.int .i64 0) := (Zn BK160.out 0).trans rfl; have hcz11_1 : w10.cell? ⟨gb160,1,none⟩ = some (.int .i64 0) := (Zn BK160.out 1).trans rfl; have hcz11_2 : w10.cell? ⟨gb160,2,none⟩ = some (.int .i64 0) := (Zn BK160.out 2).trans rfl; have hfz11_0 := Zz BK160.out 0; have hfz11_1 := Zz BK160.out 1; have hfz11_2 := Zz BK160.out 2))
           repeat (go_quiet (first | ((with_reducible refine Xr (N := 4) rfl ?_); (try (refine XD (by rfl) ?_; dsimp only)); refine X2 ?hg (N := 4) ?hd (cs := #[.int .i64 0,.int .i64 0,.int .i64 0]) (t := 27) ?hr ?_; (case hd => rfl); (case hg => rfl); (case hr => first | (go_simp; done) | (go_simp; rfl)); intro gb160 hg w10 hbox hb; have n0_ := Zc.mk (Z3 (by repeat (first | (with_reducible first | exact HB.out | apply Zd | apply Za | apply Zb) | exact HB.out)) hb); have n1_ := Zc.mk (hbox); have n2_ := Zc.mk ((by rw [hg]; exact (ZH (by repeat (first | (with_reducible first | exact HB.out | apply Zd | apply Za | apply Zb) | exact HB.out))) : w.heap.size ≤ gb160)); have n3_ := Zc.mk ((by rw [hg]; exact (ZH (by repeat (first | (with_reducible first | exact HB.out | apply Zd | apply Za | apply Zb) | exact HB.out))) : w.heap.size ≤ gb160)); clear HB; have HB := n0_; have BK160 := n1_; have GW160 := n2_; have GE160 := n3_; clear n0_ n1_ n2_ n3_; clear hb hbox hg; have hcz11_0 : w10.cell? ⟨gb160,0,none⟩ = some (.int .i64 0) := (Zn BK160.out 0).trans rfl; have hcz11_1 : w10.cell? ⟨gb160,1,none⟩ = some (.int .i64 0) := (Zn BK160.out 1).trans rfl; have hcz11_2 : w10.cell? ⟨gb160,2,none⟩ = some (.int .i64 0) := (Zn BK160.out 2).trans rfl; have hfz11_0 := Zz BK160.out 0; have hfz11_1 := Zz BK160.out 1; have hfz11_2 := Zz BK160.out 2)); go_upto_region 7 with (first | ((with_reducible refine Xr (N := 4) rfl ?_); (try (refine XD (by rfl) ?_; dsimp only)); refine X2 ?hg (N := 4) ?hd (cs := #[.int .i64 0,.int .i64 0,.int .i64 0]) (t := 27) ?hr ?_; (case hd => rfl); (case hg => rfl); (case hr => first | (go_simp; done) | (go_simp; rfl)); intro gb160 hg w10 hbox hb; have n0_ := Zc.mk (Z3 (by repeat (first | (with_reducible first | exact HB.out | apply Zd | apply Za | apply Zb) | exact HB.out)) hb); have n1_ := Zc.mk (hbox); have n2_ := Zc.mk ((by rw [hg]; exact (ZH (by repeat (first | (with_reducible first | exact HB.out | apply Zd | apply Za | apply Zb) | exact HB.out))) : w.heap.size ≤ gb160)); have n3_ := Zc.mk ((by rw [hg]; exact (ZH (by repeat (first | (with_reducible first | exact HB.out | apply Zd | apply Za | apply Zb) | exact HB.out))) : w.heap.size ≤ gb160)); clear HB; have HB := n0_; have BK160 := n1_; have GW160 := n2_; have GE160 := n3_; clear n0_ n1_ n2_ n3_; clear hb hbox hg; have hcz11_0 : w10.cell? ⟨gb160,0,none⟩ = some (.int .i64 0) := (Zn BK160.out 0).trans rfl; have hcz11_1 : w10.cell? ⟨gb160,1,none⟩ = some (.int .i64 0) := (Zn BK160.out 1).trans rfl; have hcz11_2 : w10.cell? ⟨gb160,2,none⟩ = some (.int .i64 0) := (Zn BK160.out 2).trans rfl; have hfz11_0 := Zz BK160.out 0; have hfz11_1 := Zz BK160.out 1; have hfz11_2 := Zz BK160.out 2)))
           (try simp only [Act.put,YD,YE,YF])
           go_cut [72] (fun v72 wc => ∃ (kq : Nat) (x72_8 : Bool),v72 = .bool x72_8 ∧ Zc (Zh.j2 kq l0 x3_2 x72_8 ((Zf l0 x3_2).f0) ((Zf l0 x3_2).f1) ((Zf l0 x3_2).f2) = some r) ∧ Zc (kq ≤ k2) ∧ Zc (wc.heap[gb160]? = some (.cells #[.int .i64 ((Zf l0 x3_2).f0),.int .i64 ((Zf l0 x3_2).f1),.int .i64 ((Zf l0 x3_2).f2)] 27 (0,0))) ∧ Zc (Below w.heap.size w wc))
           case first =>
            have H := HC9.out; clear HC9
            by_cases c12 : ((Zf l0 x3_2).f0) < 0
            · rw [if_pos c12] at H
              have c12b0 : decide (((Zf l0 x3_2).f0) < 0) = true := decide_eq_true c12; clear c12
              (first | rw [c12b0] | (simp only [i64_w,i32_w]; rw [c12b0]) | skip)
              have H' := Zc.mk H; clear H; have hcz13_0 : w10.cell? ⟨gb160,0,none⟩ = some (.int .i64 0) := (Zn BK160.out 0).trans rfl; have hcz13_1 : w10.cell? ⟨gb160,1,none⟩ = some (.int .i64 0) := (Zn BK160.out 1).trans rfl; have hcz13_2 : w10.cell? ⟨gb160,2,none⟩ = some (.int .i64 0) := (Zn BK160.out 2).trans rfl; have hfz13_0 := Zz BK160.out 0; have hfz13_1 := Zz BK160.out 1; have hfz13_2 := Zz BK160.out 2
              go_wp2
              repeat (go_quiet (fail); try go_wp2)
              go_meet
              case rel => exact ⟨_,(true),(by first | rfl | (simp; done) | (simp [*]; done)),H',⟨by have := HJ1.out; have := HK2.out; first | omega | exact Nat.le_refl _⟩,⟨by (with_reducible repeat (first | refine Zy ?_ _ | refine Z0 ?_ | refine Zx ?_ _)); refine ZJ (cs := #[.int .i64 ((Zf l0 x3_2).f0),.int .i64 ((Zf l0 x3_2).f1),.int .i64 0]) ?_ 2 _ rfl; (with_reducible repeat (first | refine Zy ?_ _ | refine Z0 ?_ | refine Zx ?_ _)); refine ZJ (cs := #[.int .i64 ((Zf l0 x3_2).f0),.int .i64 0,.int .i64 0]) ?_ 1 _ rfl; (with_reducible repeat (first | refine Zy ?_ _ | refine Z0 ?_ | refine Zx ?_ _)); refine ZJ (cs := #[.int .i64 0,.int .i64 0,.int .i64 0]) ?_ 0 _ rfl; (with_reducible repeat (first | refine Zy ?_ _ | refine Z0 ?_ | refine Zx ?_ _)); exact BK160.out⟩,⟨by repeat (first | (with_reducible first | exact HB.out | apply Zd | apply Za | apply Zb | refine ZK ?_ GE160.out) | exact HB.out)⟩⟩
            · rw [if_neg c12] at H
              have c12b0 : decide (((Zf l0 x3_2).f0) < 0) = false := decide_eq_false c12; clear c12
              (first | rw [c12b0] | (simp only [i64_w,i32_w]; rw [c12b0]) | skip)
              by_cases c14 : ((Zf l0 x3_2).f0) > 1000000000
              · rw [if_pos c14] at H
                have c14b0 : decide (1000000000 < ((Zf l0 x3_2).f0)) = true := decide_eq_true c14; clear c14; have H' := Zc.mk H; clear H; have hcz15_0 : w10.cell? ⟨gb160,0,none⟩ = some (.int .i64 0) := (Zn BK160.out 0).trans rfl; have hcz15_1 : w10.cell? ⟨gb160,1,none⟩ = some (.int .i64 0) := (Zn BK160.out 1).trans rfl; have hcz15_2 : w10.cell? ⟨gb160,2,none⟩ = some (.int .i64 0) := (Zn BK160.out 2).trans rfl; have hfz15_0 := Zz BK160.out 0; have hfz15_1 := Zz BK160.out 1; have hfz15_2 := Zz BK160.out 2
                go_wp2
                repeat (go_quiet (fail); try go_wp2)
                go_meet
                case rel => exact ⟨_,(true),(by first | rfl | (simp; done) | (simp [*]; done)),H',⟨by have := HJ1.out; have := HK2.out; first | omega | exact Nat.le_refl _⟩,⟨by (with_reducible repeat (first | refine Zy ?_ _ | refine Z0 ?_ | refine Zx ?_ _)); refine ZJ (cs := #[.int .i64 ((Zf l0 x3_2).f0),.int .i64 ((Zf l0 x3_2).f1),.int .i64 0]) ?_ 2 _ rfl; (with_reducible repeat (first | refine Zy ?_ _ | refine Z0 ?_ | refine Zx ?_ _)); refine ZJ (cs := #[.int .i64 ((Zf l0 x3_2).f0),.int .i64 0,.int .i64 0]) ?_ 1 _ rfl; (with_reducible repeat (first | refine Zy ?_ _ | refine Z0 ?_ | refine Zx ?_ _)); refine ZJ (cs := #[.int .i64 0,.int .i64 0,.int .i64 0]) ?_ 0 _ rfl; (with_reducible repeat (first | refine Zy ?_ _ | refine Z0 ?_ | refine Zx ?_ _)); exact BK160.out⟩,⟨by repeat (first | (with_reducible first | exact HB.out | apply Zd | apply Za | apply Zb | refine ZK ?_ GE160.out) | exact HB.out)⟩⟩
              · rw [if_neg c14] at H
                have c14b0 : decide (1000000000 < ((Zf l0 x3_2).f0)) = false := decide_eq_false c14; clear c14
                by_cases c16 : x3_2 > 0
                · rw [if_pos c16] at H
                  have c16b0 : decide (0 < x3_2) = true := decide_eq_true c16; clear c16
                  obtain ⟨ji17,hji17⟩ : ∃ j_ : Int,(wrap64 (x3_2 - 1)) = j_ := ⟨_,rfl⟩
                  replace H : (if 0 ≤ (ji17) then (if (ji17) < (l0.length : Int) then (if ((Zf l0 x3_2).f0) ≤ ((Zf l0 (ji17)).f0) then (Zh.j2 k2 l0 x3_2 true ((Zf l0 x3_2).f0) ((Zf l0 x3_2).f1) ((Zf l0 x3_2).f2)) else (if ((Zf l0 x3_2).f1) < 1 then (Zh.j2 k2 l0 x3_2 true ((Zf l0 x3_2).f0) ((Zf l0 x3_2).f1) ((Zf l0 x3_2).f2)) else (if ((Zf l0 x3_2).f1) > 67108864 then (Zh.j2 k2 l0 x3_2 true ((Zf l0 x3_2).f0) ((Zf l0 x3_2).f1) ((Zf l0 x3_2).f2)) else (if ((Zf l0 x3_2).f2) < 0 then (Zh.j2 k2 l0 x3_2 true ((Zf l0 x3_2).f0) ((Zf l0 x3_2).f1) ((Zf l0 x3_2).f2)) else (Zh.j2 k2 l0 x3_2 (decide (((Zf l0 x3_2).f2) > 1)) ((Zf l0 x3_2).f0) ((Zf l0 x3_2).f1) ((Zf l0 x3_2).f2)))))) else (none)) else (none)) = some r := by first | (rw [hji17] at H; exact H) | (simp only [hji17] at H ⊢; exact H)
                  have hji17w : (IntKind.i64.wrap (x3_2 - 1)) = ji17 := (i64_w _).trans hji17
                  by_cases c18 : 0 ≤ (ji17)
                  · rw [if_pos c18] at H
                    have c18b0 : decide (0 ≤ (ji17)) = true := decide_eq_true c18; clear c18
                    by_cases c19 : (ji17) < (l0.length : Int)
                    · rw [if_pos c19] at H
                      have c19b0 : decide ((ji17) < (l0.length : Int)) = true := decide_eq_true c19; clear c19
                      by_cases c20 : ((Zf l0 x3_2).f0) ≤ ((Zf l0 (ji17)).f0)
                      · rw [if_pos c20] at H
                        have c20b0 : decide (((Zf l0 x3_2).f0) ≤ ((Zf l0 (ji17)).f0)) = true := decide_eq_true c20; clear c20; have H' := Zc.mk H; clear H; have hcz21_0 : w10.cell? ⟨gb160,0,none⟩ = some (.int .i64 0) := (Zn BK160.out 0).trans rfl; have hcz21_1 : w10.cell? ⟨gb160,1,none⟩ = some (.int .i64 0) := (Zn BK160.out 1).trans rfl; have hcz21_2 : w10.cell? ⟨gb160,2,none⟩ = some (.int .i64 0) := (Zn BK160.out 2).trans rfl; have hfz21_0 := Zz BK160.out 0; have hfz21_1 := Zz BK160.out 1; have hfz21_2 := Zz BK160.out 2; have p161 : 0 ≤ ((ji17) : Int) := of_decide_eq_true (by first | (with_reducible assumption) | assumption); have q161 : (ji17) < (l0.length : Int) := of_decide_eq_true (by first | (with_reducible assumption) | assumption); obtain ⟨ad161,e161,hx161_0,hx161_1,hx161_2⟩ := Xm HR0.out (ji17) p161 q161
                        obtain rfl : ad159 = ad161 := (by injection e161)
                        have hn161_0 : ad159.block ≠ gb160 := Nat.ne_of_lt (Nat.lt_of_lt_of_le (by have := World.block_lt_of_cell? _ _ hx161_0; first | rwa [Zr] at this | exact this) GW160.out); have hn161_1 : ad159.block ≠ gb160 := Nat.ne_of_lt (Nat.lt_of_lt_of_le (by have := World.block_lt_of_cell? _ _ hx161_0; first | rwa [Zr] at this | exact this) GW160.out); have hn161_2 : ad159.block ≠ gb160 := Nat.ne_of_lt (Nat.lt_of_lt_of_le (by have := World.block_lt_of_cell? _ _ hx161_0; first | rwa [Zr] at this | exact this) GW160.out); replace hx161_0 := (HB.out.cell (World.block_lt_of_cell? w _ hx161_0)).trans hx161_0; replace hx161_1 := (HB.out.cell (World.block_lt_of_cell? w _ hx161_1)).trans hx161_1; replace hx161_2 := (HB.out.cell (World.block_lt_of_cell? w _ hx161_2)).trans hx161_2; replace hx161_0 := (ZM (p := ⟨gb160,0,none⟩) (by first | (rw [Zr]; exact hn161_0) | (show (Addr.add _ _).block ≠ _; rw [Zr]; exact hn161_0) | exact hn161_0) (.int .i64 ((Zf l0 x3_2).f0))).trans hx161_0; replace hx161_1 := (ZM (p := ⟨gb160,0,none⟩) (by first | (rw [Zr]; exact hn161_0) | (show (Addr.add _ _).block ≠ _; rw [Zr]; exact hn161_0) | exact hn161_0) (.int .i64 ((Zf l0 x3_2).f0))).trans hx161_1; replace hx161_2 := (ZM (p := ⟨gb160,0,none⟩) (by first | (rw [Zr]; exact hn161_0) | (show (Addr.add _ _).block ≠ _; rw [Zr]; exact hn161_0) | exact hn161_0) (.int .i64 ((Zf l0 x3_2).f0))).trans hx161_2; replace hx161_0 := (ZM (p := ⟨gb160,1,none⟩) (by first | (rw [Zr]; exact hn161_1) | (show (Addr.add _ _).block ≠ _; rw [Zr]; exact hn161_1) | exact hn161_1) (.int .i64 ((Zf l0 x3_2).f1))).trans hx161_0; replace hx161_1 := (ZM (p := ⟨gb160,1,none⟩) (by first | (rw [Zr]; exact hn161_1) | (show (Addr.add _ _).block ≠ _; rw [Zr]; exact hn161_1) | exact hn161_1) (.int .i64 ((Zf l0 x3_2).f1))).trans hx161_1; replace hx161_2 := (ZM (p := ⟨gb160,1,none⟩) (by first | (rw [Zr]; exact hn161_1) | (show (Addr.add _ _).block ≠ _; rw [Zr]; exact hn161_1) | exact hn161_1) (.int .i64 ((Zf l0 x3_2).f1))).trans hx161_2; replace hx161_0 := (ZM (p := ⟨gb160,2,none⟩) (by first | (rw [Zr]; exact hn161_2) | (show (Addr.add _ _).block ≠ _; rw [Zr]; exact hn161_2) | exact hn161_2) (.int .i64 ((Zf l0 x3_2).f2))).trans hx161_0; replace hx161_1 := (ZM (p := ⟨gb160,2,none⟩) (by first | (rw [Zr]; exact hn161_2) | (show (Addr.add _ _).block ≠ _; rw [Zr]; exact hn161_2) | exact hn161_2) (.int .i64 ((Zf l0 x3_2).f2))).trans hx161_1; replace hx161_2 := (ZM (p := ⟨gb160,2,none⟩) (by first | (rw [Zr]; exact hn161_2) | (show (Addr.add _ _).block ≠ _; rw [Zr]; exact hn161_2) | exact hn161_2) (.int .i64 ((Zf l0 x3_2).f2))).trans hx161_2
                        (try have hy161_0 := fun (n_ : Nat) => (show (((((w10.drewN n_).setCell ⟨gb160,0,none⟩ (.int .i64 ((Zf l0 x3_2).f0))).setCell ⟨gb160,1,none⟩ (.int .i64 ((Zf l0 x3_2).f1))).setCell ⟨gb160,2,none⟩ (.int .i64 ((Zf l0 x3_2).f2)))).cell? _ = some _ from hx161_0))
                        (try have hy161_1 := fun (n_ : Nat) => (show (((((w10.drewN n_).setCell ⟨gb160,0,none⟩ (.int .i64 ((Zf l0 x3_2).f0))).setCell ⟨gb160,1,none⟩ (.int .i64 ((Zf l0 x3_2).f1))).setCell ⟨gb160,2,none⟩ (.int .i64 ((Zf l0 x3_2).f2)))).cell? _ = some _ from hx161_1))
                        (try have hy161_2 := fun (n_ : Nat) => (show (((((w10.drewN n_).setCell ⟨gb160,0,none⟩ (.int .i64 ((Zf l0 x3_2).f0))).setCell ⟨gb160,1,none⟩ (.int .i64 ((Zf l0 x3_2).f1))).setCell ⟨gb160,2,none⟩ (.int .i64 ((Zf l0 x3_2).f2)))).cell? _ = some _ from hx161_2))
                        clear hn161_0; clear hn161_1; clear hn161_2; replace p161 := eq_true p161; replace q161 := eq_true q161
                        go_wp2
                        repeat (go_quiet (fail); try go_wp2)
                        go_meet
                        case rel => exact ⟨_,(true),(by first | rfl | (simp; done) | (simp [*]; done)),H',⟨by have := HJ1.out; have := HK2.out; first | omega | exact Nat.le_refl _⟩,⟨by (with_reducible repeat (first | refine Zy ?_ _ | refine Z0 ?_ | refine Zx ?_ _)); refine ZJ (cs := #[.int .i64 ((Zf l0 x3_2).f0),.int .i64 ((Zf l0 x3_2).f1),.int .i64 0]) ?_ 2 _ rfl; (with_reducible repeat (first | refine Zy ?_ _ | refine Z0 ?_ | refine Zx ?_ _)); refine ZJ (cs := #[.int .i64 ((Zf l0 x3_2).f0),.int .i64 0,.int .i64 0]) ?_ 1 _ rfl; (with_reducible repeat (first | refine Zy ?_ _ | refine Z0 ?_ | refine Zx ?_ _)); refine ZJ (cs := #[.int .i64 0,.int .i64 0,.int .i64 0]) ?_ 0 _ rfl; (with_reducible repeat (first | refine Zy ?_ _ | refine Z0 ?_ | refine Zx ?_ _)); exact BK160.out⟩,⟨by repeat (first | (with_reducible first | exact HB.out | apply Zd | apply Za | apply Zb | refine ZK ?_ GE160.out) | exact HB.out)⟩⟩
                      · rw [if_neg c20] at H
                        have c20b0 : decide (((Zf l0 x3_2).f0) ≤ ((Zf l0 (ji17)).f0)) = false := decide_eq_false c20; clear c20
                        by_cases c22 : ((Zf l0 x3_2).f1) < 1
                        · rw [if_pos c22] at H
                          have c22b0 : decide (((Zf l0 x3_2).f1) < 1) = true := decide_eq_true c22; clear c22; have H' := Zc.mk H; clear H; have hcz23_0 : w10.cell? ⟨gb160,0,none⟩ = some (.int .i64 0) := (Zn BK160.out 0).trans rfl; have hcz23_1 : w10.cell? ⟨gb160,1,none⟩ = some (.int .i64 0) := (Zn BK160.out 1).trans rfl; have hcz23_2 : w10.cell? ⟨gb160,2,none⟩ = some (.int .i64 0) := (Zn BK160.out 2).trans rfl; have hfz23_0 := Zz BK160.out 0; have hfz23_1 := Zz BK160.out 1; have hfz23_2 := Zz BK160.out 2; have p161 : 0 ≤ ((ji17) : Int) := of_decide_eq_true (by first | (with_reducible assumption) | assumption); have q161 : (ji17) < (l0.length : Int) := of_decide_eq_true (by first | (with_reducible assumption) | assumption); obtain ⟨ad161,e161,hx161_0,hx161_1,hx161_2⟩ := Xm HR0.out (ji17) p161 q161
                          obtain rfl : ad159 = ad161 := (by injection e161)
                          have hn161_0 : ad159.block ≠ gb160 := Nat.ne_of_lt (Nat.lt_of_lt_of_le (by have := World.block_lt_of_cell? _ _ hx161_0; first | rwa [Zr] at this | exact this) GW160.out); have hn161_1 : ad159.block ≠ gb160 := Nat.ne_of_lt (Nat.lt_of_lt_of_le (by have := World.block_lt_of_cell? _ _ hx161_0; first | rwa [Zr] at this | exact this) GW160.out); have hn161_2 : ad159.block ≠ gb160 := Nat.ne_of_lt (Nat.lt_of_lt_of_le (by have := World.block_lt_of_cell? _ _ hx161_0; first | rwa [Zr] at this | exact this) GW160.out); replace hx161_0 := (HB.out.cell (World.block_lt_of_cell? w _ hx161_0)).trans hx161_0; replace hx161_1 := (HB.out.cell (World.block_lt_of_cell? w _ hx161_1)).trans hx161_1; replace hx161_2 := (HB.out.cell (World.block_lt_of_cell? w _ hx161_2)).trans hx161_2; replace hx161_0 := (ZM (p := ⟨gb160,0,none⟩) (by first | (rw [Zr]; exact hn161_0) | (show (Addr.add _ _).block ≠ _; rw [Zr]; exact hn161_0) | exact hn161_0) (.int .i64 ((Zf l0 x3_2).f0))).trans hx161_0; replace hx161_1 := (ZM (p := ⟨gb160,0,none⟩) (by first | (rw [Zr]; exact hn161_0) | (show (Addr.add _ _).block ≠ _; rw [Zr]; exact hn161_0) | exact hn161_0) (.int .i64 ((Zf l0 x3_2).f0))).trans hx161_1; replace hx161_2 := (ZM (p := ⟨gb160,0,none⟩) (by first | (rw [Zr]; exact hn161_0) | (show (Addr.add _ _).block ≠ _; rw [Zr]; exact hn161_0) | exact hn161_0) (.int .i64 ((Zf l0 x3_2).f0))).trans hx161_2; replace hx161_0 := (ZM (p := ⟨gb160,1,none⟩) (by first | (rw [Zr]; exact hn161_1) | (show (Addr.add _ _).block ≠ _; rw [Zr]; exact hn161_1) | exact hn161_1) (.int .i64 ((Zf l0 x3_2).f1))).trans hx161_0; replace hx161_1 := (ZM (p := ⟨gb160,1,none⟩) (by first | (rw [Zr]; exact hn161_1) | (show (Addr.add _ _).block ≠ _; rw [Zr]; exact hn161_1) | exact hn161_1) (.int .i64 ((Zf l0 x3_2).f1))).trans hx161_1; replace hx161_2 := (ZM (p := ⟨gb160,1,none⟩) (by first | (rw [Zr]; exact hn161_1) | (show (Addr.add _ _).block ≠ _; rw [Zr]; exact hn161_1) | exact hn161_1) (.int .i64 ((Zf l0 x3_2).f1))).trans hx161_2; replace hx161_0 := (ZM (p := ⟨gb160,2,none⟩) (by first | (rw [Zr]; exact hn161_2) | (show (Addr.add _ _).block ≠ _; rw [Zr]; exact hn161_2) | exact hn161_2) (.int .i64 ((Zf l0 x3_2).f2))).trans hx161_0; replace hx161_1 := (ZM (p := ⟨gb160,2,none⟩) (by first | (rw [Zr]; exact hn161_2) | (show (Addr.add _ _).block ≠ _; rw [Zr]; exact hn161_2) | exact hn161_2) (.int .i64 ((Zf l0 x3_2).f2))).trans hx161_1; replace hx161_2 := (ZM (p := ⟨gb160,2,none⟩) (by first | (rw [Zr]; exact hn161_2) | (show (Addr.add _ _).block ≠ _; rw [Zr]; exact hn161_2) | exact hn161_2) (.int .i64 ((Zf l0 x3_2).f2))).trans hx161_2
                          (try have hy161_0 := fun (n_ : Nat) => (show (((((w10.drewN n_).setCell ⟨gb160,0,none⟩ (.int .i64 ((Zf l0 x3_2).f0))).setCell ⟨gb160,1,none⟩ (.int .i64 ((Zf l0 x3_2).f1))).setCell ⟨gb160,2,none⟩ (.int .i64 ((Zf l0 x3_2).f2)))).cell? _ = some _ from hx161_0))
                          (try have hy161_1 := fun (n_ : Nat) => (show (((((w10.drewN n_).setCell ⟨gb160,0,none⟩ (.int .i64 ((Zf l0 x3_2).f0))).setCell ⟨gb160,1,none⟩ (.int .i64 ((Zf l0 x3_2).f1))).setCell ⟨gb160,2,none⟩ (.int .i64 ((Zf l0 x3_2).f2)))).cell? _ = some _ from hx161_1))
                          (try have hy161_2 := fun (n_ : Nat) => (show (((((w10.drewN n_).setCell ⟨gb160,0,none⟩ (.int .i64 ((Zf l0 x3_2).f0))).setCell ⟨gb160,1,none⟩ (.int .i64 ((Zf l0 x3_2).f1))).setCell ⟨gb160,2,none⟩ (.int .i64 ((Zf l0 x3_2).f2)))).cell? _ = some _ from hx161_2))
                          clear hn161_0; clear hn161_1; clear hn161_2; replace p161 := eq_true p161; replace q161 := eq_true q161
                          go_wp2
                          repeat (go_quiet (fail); try go_wp2)
                          go_meet
                          case rel => exact ⟨_,(true),(by first | rfl | (simp; done) | (simp [*]; done)),H',⟨by have := HJ1.out; have := HK2.out; first | omega | exact Nat.le_refl _⟩,⟨by (with_reducible repeat (first | refine Zy ?_ _ | refine Z0 ?_ | refine Zx ?_ _)); refine ZJ (cs := #[.int .i64 ((Zf l0 x3_2).f0),.int .i64 ((Zf l0 x3_2).f1),.int .i64 0]) ?_ 2 _ rfl; (with_reducible repeat (first | refine Zy ?_ _ | refine Z0 ?_ | refine Zx ?_ _)); refine ZJ (cs := #[.int .i64 ((Zf l0 x3_2).f0),.int .i64 0,.int .i64 0]) ?_ 1 _ rfl; (with_reducible repeat (first | refine Zy ?_ _ | refine Z0 ?_ | refine Zx ?_ _)); refine ZJ (cs := #[.int .i64 0,.int .i64 0,.int .i64 0]) ?_ 0 _ rfl; (with_reducible repeat (first | refine Zy ?_ _ | refine Z0 ?_ | refine Zx ?_ _)); exact BK160.out⟩,⟨by repeat (first | (with_reducible first | exact HB.out | apply Zd | apply Za | apply Zb | refine ZK ?_ GE160.out) | exact HB.out)⟩⟩
                        · rw [if_neg c22] at H
                          have c22b0 : decide (((Zf l0 x3_2).f1) < 1) = false := decide_eq_false c22; clear c22
                          by_cases c24 : ((Zf l0 x3_2).f1) > 67108864
                          · rw [if_pos c24] at H
                            have c24b0 : decide (67108864 < ((Zf l0 x3_2).f1)) = true := decide_eq_true c24; clear c24; have H' := Zc.mk H; clear H; have hcz25_0 : w10.cell? ⟨gb160,0,none⟩ = some (.int .i64 0) := (Zn BK160.out 0).trans rfl; have hcz25_1 : w10.cell? ⟨gb160,1,none⟩ = some (.int .i64 0) := (Zn BK160.out 1).trans rfl; have hcz25_2 : w10.cell? ⟨gb160,2,none⟩ = some (.int .i64 0) := (Zn BK160.out 2).trans rfl; have hfz25_0 := Zz BK160.out 0; have hfz25_1 := Zz BK160.out 1; have hfz25_2 := Zz BK160.out 2; have p161 : 0 ≤ ((ji17) : Int) := of_decide_eq_true (by first | (with_reducible assumption) | assumption); have q161 : (ji17) < (l0.length : Int) := of_decide_eq_true (by first | (with_reducible assumption) | assumption); obtain ⟨ad161,e161,hx161_0,hx161_1,hx161_2⟩ := Xm HR0.out (ji17) p161 q161
                            obtain rfl : ad159 = ad161 := (by injection e161)
                            have hn161_0 : ad159.block ≠ gb160 := Nat.ne_of_lt (Nat.lt_of_lt_of_le (by have := World.block_lt_of_cell? _ _ hx161_0; first | rwa [Zr] at this | exact this) GW160.out); have hn161_1 : ad159.block ≠ gb160 := Nat.ne_of_lt (Nat.lt_of_lt_of_le (by have := World.block_lt_of_cell? _ _ hx161_0; first | rwa [Zr] at this | exact this) GW160.out); have hn161_2 : ad159.block ≠ gb160 := Nat.ne_of_lt (Nat.lt_of_lt_of_le (by have := World.block_lt_of_cell? _ _ hx161_0; first | rwa [Zr] at this | exact this) GW160.out); replace hx161_0 := (HB.out.cell (World.block_lt_of_cell? w _ hx161_0)).trans hx161_0; replace hx161_1 := (HB.out.cell (World.block_lt_of_cell? w _ hx161_1)).trans hx161_1; replace hx161_2 := (HB.out.cell (World.block_lt_of_cell? w _ hx161_2)).trans hx161_2; replace hx161_0 := (ZM (p := ⟨gb160,0,none⟩) (by first | (rw [Zr]; exact hn161_0) | (show (Addr.add _ _).block ≠ _; rw [Zr]; exact hn161_0) | exact hn161_0) (.int .i64 ((Zf l0 x3_2).f0))).trans hx161_0; replace hx161_1 := (ZM (p := ⟨gb160,0,none⟩) (by first | (rw [Zr]; exact hn161_0) | (show (Addr.add _ _).block ≠ _; rw [Zr]; exact hn161_0) | exact hn161_0) (.int .i64 ((Zf l0 x3_2).f0))).trans hx161_1; replace hx161_2 := (ZM (p := ⟨gb160,0,none⟩) (by first | (rw [Zr]; exact hn161_0) | (show (Addr.add _ _).block ≠ _; rw [Zr]; exact hn161_0) | exact hn161_0) (.int .i64 ((Zf l0 x3_2).f0))).trans hx161_2; replace hx161_0 := (ZM (p := ⟨gb160,1,none⟩) (by first | (rw [Zr]; exact hn161_1) | (show (Addr.add _ _).block ≠ _; rw [Zr]; exact hn161_1) | exact hn161_1) (.int .i64 ((Zf l0 x3_2).f1))).trans hx161_0; replace hx161_1 := (ZM (p := ⟨gb160,1,none⟩) (by first | (rw [Zr]; exact hn161_1) | (show (Addr.add _ _).block ≠ _; rw [Zr]; exact hn161_1) | exact hn161_1) (.int .i64 ((Zf l0 x3_2).f1))).trans hx161_1; replace hx161_2 := (ZM (p := ⟨gb160,1,none⟩) (by first | (rw [Zr]; exact hn161_1) | (show (Addr.add _ _).block ≠ _; rw [Zr]; exact hn161_1) | exact hn161_1) (.int .i64 ((Zf l0 x3_2).f1))).trans hx161_2; replace hx161_0 := (ZM (p := ⟨gb160,2,none⟩) (by first | (rw [Zr]; exact hn161_2) | (show (Addr.add _ _).block ≠ _; rw [Zr]; exact hn161_2) | exact hn161_2) (.int .i64 ((Zf l0 x3_2).f2))).trans hx161_0; replace hx161_1 := (ZM (p := ⟨gb160,2,none⟩) (by first | (rw [Zr]; exact hn161_2) | (show (Addr.add _ _).block ≠ _; rw [Zr]; exact hn161_2) | exact hn161_2) (.int .i64 ((Zf l0 x3_2).f2))).trans hx161_1; replace hx161_2 := (ZM (p := ⟨gb160,2,none⟩) (by first | (rw [Zr]; exact hn161_2) | (show (Addr.add _ _).block ≠ _; rw [Zr]; exact hn161_2) | exact hn161_2) (.int .i64 ((Zf l0 x3_2).f2))).trans hx161_2
                            (try have hy161_0 := fun (n_ : Nat) => (show (((((w10.drewN n_).setCell ⟨gb160,0,none⟩ (.int .i64 ((Zf l0 x3_2).f0))).setCell ⟨gb160,1,none⟩ (.int .i64 ((Zf l0 x3_2).f1))).setCell ⟨gb160,2,none⟩ (.int .i64 ((Zf l0 x3_2).f2)))).cell? _ = some _ from hx161_0))
                            (try have hy161_1 := fun (n_ : Nat) => (show (((((w10.drewN n_).setCell ⟨gb160,0,none⟩ (.int .i64 ((Zf l0 x3_2).f0))).setCell ⟨gb160,1,none⟩ (.int .i64 ((Zf l0 x3_2).f1))).setCell ⟨gb160,2,none⟩ (.int .i64 ((Zf l0 x3_2).f2)))).cell? _ = some _ from hx161_1))
                            (try have hy161_2 := fun (n_ : Nat) => (show (((((w10.drewN n_).setCell ⟨gb160,0,none⟩ (.int .i64 ((Zf l0 x3_2).f0))).setCell ⟨gb160,1,none⟩ (.int .i64 ((Zf l0 x3_2).f1))).setCell ⟨gb160,2,none⟩ (.int .i64 ((Zf l0 x3_2).f2)))).cell? _ = some _ from hx161_2))
                            clear hn161_0; clear hn161_1; clear hn161_2; replace p161 := eq_true p161; replace q161 := eq_true q161
                            go_wp2
                            repeat (go_quiet (fail); try go_wp2)
                            go_meet
                            case rel => exact ⟨_,(true),(by first | rfl | (simp; done) | (simp [*]; done)),H',⟨by have := HJ1.out; have := HK2.out; first | omega | exact Nat.le_refl _⟩,⟨by (with_reducible repeat (first | refine Zy ?_ _ | refine Z0 ?_ | refine Zx ?_ _)); refine ZJ (cs := #[.int .i64 ((Zf l0 x3_2).f0),.int .i64 ((Zf l0 x3_2).f1),.int .i64 0]) ?_ 2 _ rfl; (with_reducible repeat (first | refine Zy ?_ _ | refine Z0 ?_ | refine Zx ?_ _)); refine ZJ (cs := #[.int .i64 ((Zf l0 x3_2).f0),.int .i64 0,.int .i64 0]) ?_ 1 _ rfl; (with_reducible repeat (first | refine Zy ?_ _ | refine Z0 ?_ | refine Zx ?_ _)); refine ZJ (cs := #[.int .i64 0,.int .i64 0,.int .i64 0]) ?_ 0 _ rfl; (with_reducible repeat (first | refine Zy ?_ _ | refine Z0 ?_ | refine Zx ?_ _)); exact BK160.out⟩,⟨by repeat (first | (with_reducible first | exact HB.out | apply Zd | apply Za | apply Zb | refine ZK ?_ GE160.out) | exact HB.out)⟩⟩
                          · rw [if_neg c24] at H
                            have c24b0 : decide (67108864 < ((Zf l0 x3_2).f1)) = false := decide_eq_false c24; clear c24
                            by_cases c26 : ((Zf l0 x3_2).f2) < 0
                            · rw [if_pos c26] at H
                              have c26b0 : decide (((Zf l0 x3_2).f2) < 0) = true := decide_eq_true c26; clear c26; have H' := Zc.mk H; clear H; have hcz27_0 : w10.cell? ⟨gb160,0,none⟩ = some (.int .i64 0) := (Zn BK160.out 0).trans rfl; have hcz27_1 : w10.cell? ⟨gb160,1,none⟩ = some (.int .i64 0) := (Zn BK160.out 1).trans rfl; have hcz27_2 : w10.cell? ⟨gb160,2,none⟩ = some (.int .i64 0) := (Zn BK160.out 2).trans rfl; have hfz27_0 := Zz BK160.out 0; have hfz27_1 := Zz BK160.out 1; have hfz27_2 := Zz BK160.out 2; have p161 : 0 ≤ ((ji17) : Int) := of_decide_eq_true (by first | (with_reducible assumption) | assumption); have q161 : (ji17) < (l0.length : Int) := of_decide_eq_true (by first | (with_reducible assumption) | assumption); obtain ⟨ad161,e161,hx161_0,hx161_1,hx161_2⟩ := Xm HR0.out (ji17) p161 q161
                              obtain rfl : ad159 = ad161 := (by injection e161)
                              have hn161_0 : ad159.block ≠ gb160 := Nat.ne_of_lt (Nat.lt_of_lt_of_le (by have := World.block_lt_of_cell? _ _ hx161_0; first | rwa [Zr] at this | exact this) GW160.out); have hn161_1 : ad159.block ≠ gb160 := Nat.ne_of_lt (Nat.lt_of_lt_of_le (by have := World.block_lt_of_cell? _ _ hx161_0; first | rwa [Zr] at this | exact this) GW160.out); have hn161_2 : ad159.block ≠ gb160 := Nat.ne_of_lt (Nat.lt_of_lt_of_le (by have := World.block_lt_of_cell? _ _ hx161_0; first | rwa [Zr] at this | exact this) GW160.out); replace hx161_0 := (HB.out.cell (World.block_lt_of_cell? w _ hx161_0)).trans hx161_0; replace hx161_1 := (HB.out.cell (World.block_lt_of_cell? w _ hx161_1)).trans hx161_1; replace hx161_2 := (HB.out.cell (World.block_lt_of_cell? w _ hx161_2)).trans hx161_2; replace hx161_0 := (ZM (p := ⟨gb160,0,none⟩) (by first | (rw [Zr]; exact hn161_0) | (show (Addr.add _ _).block ≠ _; rw [Zr]; exact hn161_0) | exact hn161_0) (.int .i64 ((Zf l0 x3_2).f0))).trans hx161_0; replace hx161_1 := (ZM (p := ⟨gb160,0,none⟩) (by first | (rw [Zr]; exact hn161_0) | (show (Addr.add _ _).block ≠ _; rw [Zr]; exact hn161_0) | exact hn161_0) (.int .i64 ((Zf l0 x3_2).f0))).trans hx161_1; replace hx161_2 := (ZM (p := ⟨gb160,0,none⟩) (by first | (rw [Zr]; exact hn161_0) | (show (Addr.add _ _).block ≠ _; rw [Zr]; exact hn161_0) | exact hn161_0) (.int .i64 ((Zf l0 x3_2).f0))).trans hx161_2; replace hx161_0 := (ZM (p := ⟨gb160,1,none⟩) (by first | (rw [Zr]; exact hn161_1) | (show (Addr.add _ _).block ≠ _; rw [Zr]; exact hn161_1) | exact hn161_1) (.int .i64 ((Zf l0 x3_2).f1))).trans hx161_0; replace hx161_1 := (ZM (p := ⟨gb160,1,none⟩) (by first | (rw [Zr]; exact hn161_1) | (show (Addr.add _ _).block ≠ _; rw [Zr]; exact hn161_1) | exact hn161_1) (.int .i64 ((Zf l0 x3_2).f1))).trans hx161_1; replace hx161_2 := (ZM (p := ⟨gb160,1,none⟩) (by first | (rw [Zr]; exact hn161_1) | (show (Addr.add _ _).block ≠ _; rw [Zr]; exact hn161_1) | exact hn161_1) (.int .i64 ((Zf l0 x3_2).f1))).trans hx161_2; replace hx161_0 := (ZM (p := ⟨gb160,2,none⟩) (by first | (rw [Zr]; exact hn161_2) | (show (Addr.add _ _).block ≠ _; rw [Zr]; exact hn161_2) | exact hn161_2) (.int .i64 ((Zf l0 x3_2).f2))).trans hx161_0; replace hx161_1 := (ZM (p := ⟨gb160,2,none⟩) (by first | (rw [Zr]; exact hn161_2) | (show (Addr.add _ _).block ≠ _; rw [Zr]; exact hn161_2) | exact hn161_2) (.int .i64 ((Zf l0 x3_2).f2))).trans hx161_1; replace hx161_2 := (ZM (p := ⟨gb160,2,none⟩) (by first | (rw [Zr]; exact hn161_2) | (show (Addr.add _ _).block ≠ _; rw [Zr]; exact hn161_2) | exact hn161_2) (.int .i64 ((Zf l0 x3_2).f2))).trans hx161_2
                              (try have hy161_0 := fun (n_ : Nat) => (show (((((w10.drewN n_).setCell ⟨gb160,0,none⟩ (.int .i64 ((Zf l0 x3_2).f0))).setCell ⟨gb160,1,none⟩ (.int .i64 ((Zf l0 x3_2).f1))).setCell ⟨gb160,2,none⟩ (.int .i64 ((Zf l0 x3_2).f2)))).cell? _ = some _ from hx161_0))
                              (try have hy161_1 := fun (n_ : Nat) => (show (((((w10.drewN n_).setCell ⟨gb160,0,none⟩ (.int .i64 ((Zf l0 x3_2).f0))).setCell ⟨gb160,1,none⟩ (.int .i64 ((Zf l0 x3_2).f1))).setCell ⟨gb160,2,none⟩ (.int .i64 ((Zf l0 x3_2).f2)))).cell? _ = some _ from hx161_1))
                              (try have hy161_2 := fun (n_ : Nat) => (show (((((w10.drewN n_).setCell ⟨gb160,0,none⟩ (.int .i64 ((Zf l0 x3_2).f0))).setCell ⟨gb160,1,none⟩ (.int .i64 ((Zf l0 x3_2).f1))).setCell ⟨gb160,2,none⟩ (.int .i64 ((Zf l0 x3_2).f2)))).cell? _ = some _ from hx161_2))
                              clear hn161_0; clear hn161_1; clear hn161_2; replace p161 := eq_true p161; replace q161 := eq_true q161
                              go_wp2
                              repeat (go_quiet (fail); try go_wp2)
                              go_meet
                              case rel => exact ⟨_,(true),(by first | rfl | (simp; done) | (simp [*]; done)),H',⟨by have := HJ1.out; have := HK2.out; first | omega | exact Nat.le_refl _⟩,⟨by (with_reducible repeat (first | refine Zy ?_ _ | refine Z0 ?_ | refine Zx ?_ _)); refine ZJ (cs := #[.int .i64 ((Zf l0 x3_2).f0),.int .i64 ((Zf l0 x3_2).f1),.int .i64 0]) ?_ 2 _ rfl; (with_reducible repeat (first | refine Zy ?_ _ | refine Z0 ?_ | refine Zx ?_ _)); refine ZJ (cs := #[.int .i64 ((Zf l0 x3_2).f0),.int .i64 0,.int .i64 0]) ?_ 1 _ rfl; (with_reducible repeat (first | refine Zy ?_ _ | refine Z0 ?_ | refine Zx ?_ _)); refine ZJ (cs := #[.int .i64 0,.int .i64 0,.int .i64 0]) ?_ 0 _ rfl; (with_reducible repeat (first | refine Zy ?_ _ | refine Z0 ?_ | refine Zx ?_ _)); exact BK160.out⟩,⟨by repeat (first | (with_reducible first | exact HB.out | apply Zd | apply Za | apply Zb | refine ZK ?_ GE160.out) | exact HB.out)⟩⟩
                            · rw [if_neg c26] at H
                              have c26b0 : decide (((Zf l0 x3_2).f2) < 0) = false := decide_eq_false c26; clear c26; have H' := Zc.mk H; clear H; have hcz28_0 : w10.cell? ⟨gb160,0,none⟩ = some (.int .i64 0) := (Zn BK160.out 0).trans rfl; have hcz28_1 : w10.cell? ⟨gb160,1,none⟩ = some (.int .i64 0) := (Zn BK160.out 1).trans rfl; have hcz28_2 : w10.cell? ⟨gb160,2,none⟩ = some (.int .i64 0) := (Zn BK160.out 2).trans rfl; have hfz28_0 := Zz BK160.out 0; have hfz28_1 := Zz BK160.out 1; have hfz28_2 := Zz BK160.out 2; have p161 : 0 ≤ ((ji17) : Int) := of_decide_eq_true (by first | (with_reducible assumption) | assumption); have q161 : (ji17) < (l0.length : Int) := of_decide_eq_true (by first | (with_reducible assumption) | assumption); obtain ⟨ad161,e161,hx161_0,hx161_1,hx161_2⟩ := Xm HR0.out (ji17) p161 q161
                              obtain rfl : ad159 = ad161 := (by injection e161)
                              have hn161_0 : ad159.block ≠ gb160 := Nat.ne_of_lt (Nat.lt_of_lt_of_le (by have := World.block_lt_of_cell? _ _ hx161_0; first | rwa [Zr] at this | exact this) GW160.out); have hn161_1 : ad159.block ≠ gb160 := Nat.ne_of_lt (Nat.lt_of_lt_of_le (by have := World.block_lt_of_cell? _ _ hx161_0; first | rwa [Zr] at this | exact this) GW160.out); have hn161_2 : ad159.block ≠ gb160 := Nat.ne_of_lt (Nat.lt_of_lt_of_le (by have := World.block_lt_of_cell? _ _ hx161_0; first | rwa [Zr] at this | exact this) GW160.out); replace hx161_0 := (HB.out.cell (World.block_lt_of_cell? w _ hx161_0)).trans hx161_0; replace hx161_1 := (HB.out.cell (World.block_lt_of_cell? w _ hx161_1)).trans hx161_1; replace hx161_2 := (HB.out.cell (World.block_lt_of_cell? w _ hx161_2)).trans hx161_2; replace hx161_0 := (ZM (p := ⟨gb160,0,none⟩) (by first | (rw [Zr]; exact hn161_0) | (show (Addr.add _ _).block ≠ _; rw [Zr]; exact hn161_0) | exact hn161_0) (.int .i64 ((Zf l0 x3_2).f0))).trans hx161_0; replace hx161_1 := (ZM (p := ⟨gb160,0,none⟩) (by first | (rw [Zr]; exact hn161_0) | (show (Addr.add _ _).block ≠ _; rw [Zr]; exact hn161_0) | exact hn161_0) (.int .i64 ((Zf l0 x3_2).f0))).trans hx161_1; replace hx161_2 := (ZM (p := ⟨gb160,0,none⟩) (by first | (rw [Zr]; exact hn161_0) | (show (Addr.add _ _).block ≠ _; rw [Zr]; exact hn161_0) | exact hn161_0) (.int .i64 ((Zf l0 x3_2).f0))).trans hx161_2; replace hx161_0 := (ZM (p := ⟨gb160,1,none⟩) (by first | (rw [Zr]; exact hn161_1) | (show (Addr.add _ _).block ≠ _; rw [Zr]; exact hn161_1) | exact hn161_1) (.int .i64 ((Zf l0 x3_2).f1))).trans hx161_0; replace hx161_1 := (ZM (p := ⟨gb160,1,none⟩) (by first | (rw [Zr]; exact hn161_1) | (show (Addr.add _ _).block ≠ _; rw [Zr]; exact hn161_1) | exact hn161_1) (.int .i64 ((Zf l0 x3_2).f1))).trans hx161_1; replace hx161_2 := (ZM (p := ⟨gb160,1,none⟩) (by first | (rw [Zr]; exact hn161_1) | (show (Addr.add _ _).block ≠ _; rw [Zr]; exact hn161_1) | exact hn161_1) (.int .i64 ((Zf l0 x3_2).f1))).trans hx161_2; replace hx161_0 := (ZM (p := ⟨gb160,2,none⟩) (by first | (rw [Zr]; exact hn161_2) | (show (Addr.add _ _).block ≠ _; rw [Zr]; exact hn161_2) | exact hn161_2) (.int .i64 ((Zf l0 x3_2).f2))).trans hx161_0; replace hx161_1 := (ZM (p := ⟨gb160,2,none⟩) (by first | (rw [Zr]; exact hn161_2) | (show (Addr.add _ _).block ≠ _; rw [Zr]; exact hn161_2) | exact hn161_2) (.int .i64 ((Zf l0 x3_2).f2))).trans hx161_1; replace hx161_2 := (ZM (p := ⟨gb160,2,none⟩) (by first | (rw [Zr]; exact hn161_2) | (show (Addr.add _ _).block ≠ _; rw [Zr]; exact hn161_2) | exact hn161_2) (.int .i64 ((Zf l0 x3_2).f2))).trans hx161_2
                              (try have hy161_0 := fun (n_ : Nat) => (show (((((w10.drewN n_).setCell ⟨gb160,0,none⟩ (.int .i64 ((Zf l0 x3_2).f0))).setCell ⟨gb160,1,none⟩ (.int .i64 ((Zf l0 x3_2).f1))).setCell ⟨gb160,2,none⟩ (.int .i64 ((Zf l0 x3_2).f2)))).cell? _ = some _ from hx161_0))
                              (try have hy161_1 := fun (n_ : Nat) => (show (((((w10.drewN n_).setCell ⟨gb160,0,none⟩ (.int .i64 ((Zf l0 x3_2).f0))).setCell ⟨gb160,1,none⟩ (.int .i64 ((Zf l0 x3_2).f1))).setCell ⟨gb160,2,none⟩ (.int .i64 ((Zf l0 x3_2).f2)))).cell? _ = some _ from hx161_1))
                              (try have hy161_2 := fun (n_ : Nat) => (show (((((w10.drewN n_).setCell ⟨gb160,0,none⟩ (.int .i64 ((Zf l0 x3_2).f0))).setCell ⟨gb160,1,none⟩ (.int .i64 ((Zf l0 x3_2).f1))).setCell ⟨gb160,2,none⟩ (.int .i64 ((Zf l0 x3_2).f2)))).cell? _ = some _ from hx161_2))
                              clear hn161_0; clear hn161_1; clear hn161_2; replace p161 := eq_true p161; replace q161 := eq_true q161
                              go_wp2
                              repeat (go_quiet (fail); try go_wp2)
                              go_meet
                              case rel => exact ⟨_,(decide (((Zf l0 x3_2).f2) > 1)),(by first | rfl | (simp; done) | (simp [*]; done)),H',⟨by have := HJ1.out; have := HK2.out; first | omega | exact Nat.le_refl _⟩,⟨by (with_reducible repeat (first | refine Zy ?_ _ | refine Z0 ?_ | refine Zx ?_ _)); refine ZJ (cs := #[.int .i64 ((Zf l0 x3_2).f0),.int .i64 ((Zf l0 x3_2).f1),.int .i64 0]) ?_ 2 _ rfl; (with_reducible repeat (first | refine Zy ?_ _ | refine Z0 ?_ | refine Zx ?_ _)); refine ZJ (cs := #[.int .i64 ((Zf l0 x3_2).f0),.int .i64 0,.int .i64 0]) ?_ 1 _ rfl; (with_reducible repeat (first | refine Zy ?_ _ | refine Z0 ?_ | refine Zx ?_ _)); refine ZJ (cs := #[.int .i64 0,.int .i64 0,.int .i64 0]) ?_ 0 _ rfl; (with_reducible repeat (first | refine Zy ?_ _ | refine Z0 ?_ | refine Zx ?_ _)); exact BK160.out⟩,⟨by repeat (first | (with_reducible first | exact HB.out | apply Zd | apply Za | apply Zb | refine ZK ?_ GE160.out) | exact HB.out)⟩⟩
                    · rw [if_neg c19] at H
                      exact absurd H (by simp)
                  · rw [if_neg c18] at H
                    exact absurd H (by simp)
                · rw [if_neg c16] at H
                  have c16b0 : decide (0 < x3_2) = false := decide_eq_false c16; clear c16
                  by_cases c29 : ((Zf l0 x3_2).f1) < 1
                  · rw [if_pos c29] at H
                    have c29b0 : decide (((Zf l0 x3_2).f1) < 1) = true := decide_eq_true c29; clear c29; have H' := Zc.mk H; clear H; have hcz30_0 : w10.cell? ⟨gb160,0,none⟩ = some (.int .i64 0) := (Zn BK160.out 0).trans rfl; have hcz30_1 : w10.cell? ⟨gb160,1,none⟩ = some (.int .i64 0) := (Zn BK160.out 1).trans rfl; have hcz30_2 : w10.cell? ⟨gb160,2,none⟩ = some (.int .i64 0) := (Zn BK160.out 2).trans rfl; have hfz30_0 := Zz BK160.out 0; have hfz30_1 := Zz BK160.out 1; have hfz30_2 := Zz BK160.out 2
                    go_wp2
                    repeat (go_quiet (fail); try go_wp2)
                    go_meet
                    case rel => exact ⟨_,(true),(by first | rfl | (simp; done) | (simp [*]; done)),H',⟨by have := HJ1.out; have := HK2.out; first | omega | exact Nat.le_refl _⟩,⟨by (with_reducible repeat (first | refine Zy ?_ _ | refine Z0 ?_ | refine Zx ?_ _)); refine ZJ (cs := #[.int .i64 ((Zf l0 x3_2).f0),.int .i64 ((Zf l0 x3_2).f1),.int .i64 0]) ?_ 2 _ rfl; (with_reducible repeat (first | refine Zy ?_ _ | refine Z0 ?_ | refine Zx ?_ _)); refine ZJ (cs := #[.int .i64 ((Zf l0 x3_2).f0),.int .i64 0,.int .i64 0]) ?_ 1 _ rfl; (with_reducible repeat (first | refine Zy ?_ _ | refine Z0 ?_ | refine Zx ?_ _)); refine ZJ (cs := #[.int .i64 0,.int .i64 0,.int .i64 0]) ?_ 0 _ rfl; (with_reducible repeat (first | refine Zy ?_ _ | refine Z0 ?_ | refine Zx ?_ _)); exact BK160.out⟩,⟨by repeat (first | (with_reducible first | exact HB.out | apply Zd | apply Za | apply Zb | refine ZK ?_ GE160.out) | exact HB.out)⟩⟩
                  · rw [if_neg c29] at H
                    have c29b0 : decide (((Zf l0 x3_2).f1) < 1) = false := decide_eq_false c29; clear c29
                    by_cases c31 : ((Zf l0 x3_2).f1) > 67108864
                    · rw [if_pos c31] at H
                      have c31b0 : decide (67108864 < ((Zf l0 x3_2).f1)) = true := decide_eq_true c31; clear c31; have H' := Zc.mk H; clear H; have hcz32_0 : w10.cell? ⟨gb160,0,none⟩ = some (.int .i64 0) := (Zn BK160.out 0).trans rfl; have hcz32_1 : w10.cell? ⟨gb160,1,none⟩ = some (.int .i64 0) := (Zn BK160.out 1).trans rfl; have hcz32_2 : w10.cell? ⟨gb160,2,none⟩ = some (.int .i64 0) := (Zn BK160.out 2).trans rfl; have hfz32_0 := Zz BK160.out 0; have hfz32_1 := Zz BK160.out 1; have hfz32_2 := Zz BK160.out 2
                      go_wp2
                      repeat (go_quiet (fail); try go_wp2)
                      go_meet
                      case rel => exact ⟨_,(true),(by first | rfl | (simp; done) | (simp [*]; done)),H',⟨by have := HJ1.out; have := HK2.out; first | omega | exact Nat.le_refl _⟩,⟨by (with_reducible repeat (first | refine Zy ?_ _ | refine Z0 ?_ | refine Zx ?_ _)); refine ZJ (cs := #[.int .i64 ((Zf l0 x3_2).f0),.int .i64 ((Zf l0 x3_2).f1),.int .i64 0]) ?_ 2 _ rfl; (with_reducible repeat (first | refine Zy ?_ _ | refine Z0 ?_ | refine Zx ?_ _)); refine ZJ (cs := #[.int .i64 ((Zf l0 x3_2).f0),.int .i64 0,.int .i64 0]) ?_ 1 _ rfl; (with_reducible repeat (first | refine Zy ?_ _ | refine Z0 ?_ | refine Zx ?_ _)); refine ZJ (cs := #[.int .i64 0,.int .i64 0,.int .i64 0]) ?_ 0 _ rfl; (with_reducible repeat (first | refine Zy ?_ _ | refine Z0 ?_ | refine Zx ?_ _)); exact BK160.out⟩,⟨by repeat (first | (with_reducible first | exact HB.out | apply Zd | apply Za | apply Zb | refine ZK ?_ GE160.out) | exact HB.out)⟩⟩
                    · rw [if_neg c31] at H
                      have c31b0 : decide (67108864 < ((Zf l0 x3_2).f1)) = false := decide_eq_false c31; clear c31
                      by_cases c33 : ((Zf l0 x3_2).f2) < 0
                      · rw [if_pos c33] at H
                        have c33b0 : decide (((Zf l0 x3_2).f2) < 0) = true := decide_eq_true c33; clear c33; have H' := Zc.mk H; clear H; have hcz34_0 : w10.cell? ⟨gb160,0,none⟩ = some (.int .i64 0) := (Zn BK160.out 0).trans rfl; have hcz34_1 : w10.cell? ⟨gb160,1,none⟩ = some (.int .i64 0) := (Zn BK160.out 1).trans rfl; have hcz34_2 : w10.cell? ⟨gb160,2,none⟩ = some (.int .i64 0) := (Zn BK160.out 2).trans rfl; have hfz34_0 := Zz BK160.out 0; have hfz34_1 := Zz BK160.out 1; have hfz34_2 := Zz BK160.out 2
                        go_wp2
                        repeat (go_quiet (fail); try go_wp2)
                        go_meet
                        case rel => exact ⟨_,(true),(by first | rfl | (simp; done) | (simp [*]; done)),H',⟨by have := HJ1.out; have := HK2.out; first | omega | exact Nat.le_refl _⟩,⟨by (with_reducible repeat (first | refine Zy ?_ _ | refine Z0 ?_ | refine Zx ?_ _)); refine ZJ (cs := #[.int .i64 ((Zf l0 x3_2).f0),.int .i64 ((Zf l0 x3_2).f1),.int .i64 0]) ?_ 2 _ rfl; (with_reducible repeat (first | refine Zy ?_ _ | refine Z0 ?_ | refine Zx ?_ _)); refine ZJ (cs := #[.int .i64 ((Zf l0 x3_2).f0),.int .i64 0,.int .i64 0]) ?_ 1 _ rfl; (with_reducible repeat (first | refine Zy ?_ _ | refine Z0 ?_ | refine Zx ?_ _)); refine ZJ (cs := #[.int .i64 0,.int .i64 0,.int .i64 0]) ?_ 0 _ rfl; (with_reducible repeat (first | refine Zy ?_ _ | refine Z0 ?_ | refine Zx ?_ _)); exact BK160.out⟩,⟨by repeat (first | (with_reducible first | exact HB.out | apply Zd | apply Za | apply Zb | refine ZK ?_ GE160.out) | exact HB.out)⟩⟩
                      · rw [if_neg c33] at H
                        have c33b0 : decide (((Zf l0 x3_2).f2) < 0) = false := decide_eq_false c33; clear c33; have H' := Zc.mk H; clear H; have hcz35_0 : w10.cell? ⟨gb160,0,none⟩ = some (.int .i64 0) := (Zn BK160.out 0).trans rfl; have hcz35_1 : w10.cell? ⟨gb160,1,none⟩ = some (.int .i64 0) := (Zn BK160.out 1).trans rfl; have hcz35_2 : w10.cell? ⟨gb160,2,none⟩ = some (.int .i64 0) := (Zn BK160.out 2).trans rfl; have hfz35_0 := Zz BK160.out 0; have hfz35_1 := Zz BK160.out 1; have hfz35_2 := Zz BK160.out 2
                        go_wp2
                        repeat (go_quiet (fail); try go_wp2)
                        go_meet
                        case rel => exact ⟨_,(decide (((Zf l0 x3_2).f2) > 1)),(by first | rfl | (simp; done) | (simp [*]; done)),H',⟨by have := HJ1.out; have := HK2.out; first | omega | exact Nat.le_refl _⟩,⟨by (with_reducible repeat (first | refine Zy ?_ _ | refine Z0 ?_ | refine Zx ?_ _)); refine ZJ (cs := #[.int .i64 ((Zf l0 x3_2).f0),.int .i64 ((Zf l0 x3_2).f1),.int .i64 0]) ?_ 2 _ rfl; (with_reducible repeat (first | refine Zy ?_ _ | refine Z0 ?_ | refine Zx ?_ _)); refine ZJ (cs := #[.int .i64 ((Zf l0 x3_2).f0),.int .i64 0,.int .i64 0]) ?_ 1 _ rfl; (with_reducible repeat (first | refine Zy ?_ _ | refine Z0 ?_ | refine Zx ?_ _)); refine ZJ (cs := #[.int .i64 0,.int .i64 0,.int .i64 0]) ?_ 0 _ rfl; (with_reducible repeat (first | refine Zy ?_ _ | refine Z0 ?_ | refine Zx ?_ _)); exact BK160.out⟩,⟨by repeat (first | (with_reducible first | exact HB.out | apply Zd | apply Za | apply Zb | refine ZK ?_ GE160.out) | exact HB.out)⟩⟩
           case rest =>
            clear HC9
            (try clear c1); (try clear p1); (try clear q1); (try clear hx1); (try clear qi1); (try clear c2); (try clear p2); (try clear c3); (try clear c3b0); (try clear c3b1); (try clear c4); (try clear c4b0); (try clear c4b1); (try clear c5); (try clear c5b0); (try clear c5b1); (try clear c6); (try clear p6); (try clear c7); (try clear c7b0); (try clear c8); (try clear c8b0); (try clear c11); (try clear c12); (try clear c12b0); (try clear c14); (try clear c14b0); (try clear p15); (try clear q15); (try clear hx15); (try clear qi15); (try clear c16); (try clear c16b0); (try clear p16); (try clear q16); (try clear hx16); (try clear c18); (try clear c18b0); (try clear c19); (try clear c19b0); (try clear c20); (try clear c20b0); (try clear c22); (try clear c22b0); (try clear c24); (try clear c24b0); (try clear c26); (try clear c26b0); (try clear c29); (try clear c29b0); (try clear c31); (try clear c31b0); (try clear c33); (try clear c33b0); (try clear hcz11_0); (try clear hcz11_1); (try clear hcz11_2); (try clear hcz13_0); (try clear hcz13_1); (try clear hcz13_2); (try clear hcz15_0); (try clear hcz15_1); (try clear hcz15_2); (try clear hcz21_0); (try clear hcz21_1); (try clear hcz21_2); (try clear hcz23_0); (try clear hcz23_1); (try clear hcz23_2); (try clear hcz25_0); (try clear hcz25_1); (try clear hcz25_2); (try clear hcz27_0); (try clear hcz27_1); (try clear hcz27_2); (try clear hcz28_0); (try clear hcz28_1); (try clear hcz28_2); (try clear hcz30_0); (try clear hcz30_1); (try clear hcz30_2); (try clear hcz32_0); (try clear hcz32_1); (try clear hcz32_2); (try clear hcz34_0); (try clear hcz34_1); (try clear hcz34_2); (try clear hcz35_0); (try clear hcz35_1); (try clear hcz35_2); (try clear hfz11_0); (try clear hfz11_1); (try clear hfz11_2); (try clear hfz13_0); (try clear hfz13_1); (try clear hfz13_2); (try clear hfz15_0); (try clear hfz15_1); (try clear hfz15_2); (try clear hfz21_0); (try clear hfz21_1); (try clear hfz21_2); (try clear hfz23_0); (try clear hfz23_1); (try clear hfz23_2); (try clear hfz25_0); (try clear hfz25_1); (try clear hfz25_2); (try clear hfz27_0); (try clear hfz27_1); (try clear hfz27_2); (try clear hfz28_0); (try clear hfz28_1); (try clear hfz28_2); (try clear hfz30_0); (try clear hfz30_1); (try clear hfz30_2); (try clear hfz32_0); (try clear hfz32_1); (try clear hfz32_2); (try clear hfz34_0); (try clear hfz34_1); (try clear hfz34_2); (try clear hfz35_0); (try clear hfz35_1); (try clear hfz35_2); (try clear hx158_0); (try clear hx158_1); (try clear hx158_2); (try clear hx159_0); (try clear hx159_1); (try clear hx159_2); (try clear hx161_0); (try clear hx161_1); (try clear hx161_2); (try clear p1); (try clear p158); (try clear p159); (try clear p161); (try clear p2); (try clear q1); (try clear q158); (try clear q159); (try clear q161)
            obtain ⟨kq,x72_8,rfl,HA,HJ8,BK160,HB⟩ := hcut
            cases kq with
            | zero => exact absurd HA.out (by simp [Zh.j2])
            | succ kj8 =>
             have H := HA.out; clear HA; simp only [Zh.j2] at H
             by_cases c36 : x72_8 = true
             · subst c36
               have H1 : (some false) = some r := by rw [if_pos rfl] at H; exact H
               clear H; have H := H1; clear H1; obtain rfl := Option.some.inj H
               go_wp2
               repeat (go_quiet (fail); try go_wp2)
               go_ret; exact ⟨by first | rfl | (simp [Zv,Zu] <;> rfl) | (simp [*,Zv,Zu] <;> rfl),by repeat (first | (with_reducible first | exact HB.out | apply Zd | apply Za | apply Zb | refine ZK ?_ GE160.out) | exact HB.out)⟩
             · replace c36 := Bool.eq_false_iff.mpr c36
               subst c36
               have H1 : (if ((Zf l0 x3_2).f2) = 1 then (if x3_2 = (wrap64 ((l0.length : Int) - 1)) then (some false) else (if 0 ≤ (wrap64 (x3_2 + 1)) then (if (wrap64 (x3_2 + 1)) < (l0.length : Int) then (if (wrap64 (((Zf l0 (wrap64 (x3_2 + 1))).f0) - ((Zf l0 x3_2).f0))) > 10000 then (some false) else (Zh.l0 kj8 l0 (wrap64 (x3_2 + 1)))) else (none)) else (none))) else (Zh.l0 kj8 l0 (wrap64 (x3_2 + 1)))) = some r := by rw [if_neg (show ¬ (false = true) by decide)] at H; exact H
               clear H; have H := H1; clear H1
               by_cases c37 : ((Zf l0 x3_2).f2) = 1
               · rw [if_pos c37] at H
                 have c37b0 : (((Zf l0 x3_2).f2) == 1) = true := beq_iff_eq.mpr c37; have c37b1 : (((Zf l0 x3_2).f2) != 1) = false := bne_eq_false_iff_eq.mpr c37; clear c37
                 by_cases c38 : x3_2 = (wrap64 ((l0.length : Int) - 1))
                 · rw [if_pos c38] at H
                   have c38b0 : (x3_2 == (wrap64 ((l0.length : Int) - 1))) = true := beq_iff_eq.mpr c38; have c38b1 : (x3_2 != (wrap64 ((l0.length : Int) - 1))) = false := bne_eq_false_iff_eq.mpr c38; clear c38; obtain rfl := Option.some.inj H; have hcz39_0 : wc.cell? ⟨gb160,0,none⟩ = some (.int .i64 ((Zf l0 x3_2).f0)) := (Zn BK160.out 0).trans rfl; have hcz39_1 : wc.cell? ⟨gb160,1,none⟩ = some (.int .i64 ((Zf l0 x3_2).f1)) := (Zn BK160.out 1).trans rfl; have hcz39_2 : wc.cell? ⟨gb160,2,none⟩ = some (.int .i64 ((Zf l0 x3_2).f2)) := (Zn BK160.out 2).trans rfl; have hfz39_0 := Zz BK160.out 0; have hfz39_1 := Zz BK160.out 1; have hfz39_2 := Zz BK160.out 2
                   go_wp2
                   repeat (go_quiet (fail); try go_wp2)
                   go_ret; exact ⟨by first | rfl | (simp [Zv,Zu] <;> rfl) | (simp [*,Zv,Zu] <;> rfl),by repeat (first | (with_reducible first | exact HB.out | apply Zd | apply Za | apply Zb | refine ZK ?_ GE160.out) | exact HB.out)⟩
                 · rw [if_neg c38] at H
                   have c38b0 : (x3_2 == (wrap64 ((l0.length : Int) - 1))) = false := beq_eq_false_iff_ne.mpr c38; have c38b1 : (x3_2 != (wrap64 ((l0.length : Int) - 1))) = true := bne_iff_ne.mpr c38
                   obtain ⟨ji40,hji40⟩ : ∃ j_ : Int,(wrap64 (x3_2 + 1)) = j_ := ⟨_,rfl⟩
                   replace H : (if 0 ≤ (ji40) then (if (ji40) < (l0.length : Int) then (if (wrap64 (((Zf l0 (ji40)).f0) - ((Zf l0 x3_2).f0))) > 10000 then (some false) else (Zh.l0 kj8 l0 ji40)) else (none)) else (none)) = some r := by first | (rw [hji40] at H; exact H) | (simp only [hji40] at H ⊢; exact H)
                   have hji40w : (IntKind.i64.wrap (x3_2 + 1)) = ji40 := (i64_w _).trans hji40
                   by_cases c41 : 0 ≤ (ji40)
                   · rw [if_pos c41] at H
                     have c41b0 : decide (0 ≤ (ji40)) = true := decide_eq_true c41; clear c41
                     by_cases c42 : (ji40) < (l0.length : Int)
                     · rw [if_pos c42] at H
                       have c42b0 : decide ((ji40) < (l0.length : Int)) = true := decide_eq_true c42; clear c42
                       by_cases c43 : (wrap64 (((Zf l0 (ji40)).f0) - ((Zf l0 x3_2).f0))) > 10000
                       · rw [if_pos c43] at H
                         have c43b0 : decide (10000 < (wrap64 (((Zf l0 (ji40)).f0) - ((Zf l0 x3_2).f0)))) = true := decide_eq_true c43; clear c43; obtain rfl := Option.some.inj H; have hcz44_0 : wc.cell? ⟨gb160,0,none⟩ = some (.int .i64 ((Zf l0 x3_2).f0)) := (Zn BK160.out 0).trans rfl; have hcz44_1 : wc.cell? ⟨gb160,1,none⟩ = some (.int .i64 ((Zf l0 x3_2).f1)) := (Zn BK160.out 1).trans rfl; have hcz44_2 : wc.cell? ⟨gb160,2,none⟩ = some (.int .i64 ((Zf l0 x3_2).f2)) := (Zn BK160.out 2).trans rfl; have hfz44_0 := Zz BK160.out 0; have hfz44_1 := Zz BK160.out 1; have hfz44_2 := Zz BK160.out 2; have p162 : 0 ≤ ((ji40) : Int) := of_decide_eq_true (by first | (with_reducible assumption) | assumption); have q162 : (ji40) < (l0.length : Int) := of_decide_eq_true (by first | (with_reducible assumption) | assumption); obtain ⟨ad162,e162,hx162_0,hx162_1,hx162_2⟩ := Xm HR0.out (ji40) p162 q162
                         obtain rfl : ad159 = ad162 := (by injection e162)
                         replace hx162_0 := (HB.out.cell (World.block_lt_of_cell? w _ hx162_0)).trans hx162_0; replace hx162_1 := (HB.out.cell (World.block_lt_of_cell? w _ hx162_1)).trans hx162_1; replace hx162_2 := (HB.out.cell (World.block_lt_of_cell? w _ hx162_2)).trans hx162_2; replace p162 := eq_true p162; replace q162 := eq_true q162
                         go_wp2
                         repeat (go_quiet (fail); try go_wp2)
                         go_ret; exact ⟨by first | rfl | (simp [Zv,Zu] <;> rfl) | (simp only [← hji40]; first | rfl | (simp [Zv,Zu] <;> rfl)) | (simp [*,Zv,Zu] <;> rfl),by repeat (first | (with_reducible first | exact HB.out | apply Zd | apply Za | apply Zb | refine ZK ?_ GE160.out) | exact HB.out)⟩
                       · rw [if_neg c43] at H
                         have c43b0 : decide (10000 < (wrap64 (((Zf l0 (ji40)).f0) - ((Zf l0 x3_2).f0)))) = false := decide_eq_false c43; clear c43; have H' := Zc.mk H; clear H; have hcz45_0 : wc.cell? ⟨gb160,0,none⟩ = some (.int .i64 ((Zf l0 x3_2).f0)) := (Zn BK160.out 0).trans rfl; have hcz45_1 : wc.cell? ⟨gb160,1,none⟩ = some (.int .i64 ((Zf l0 x3_2).f1)) := (Zn BK160.out 1).trans rfl; have hcz45_2 : wc.cell? ⟨gb160,2,none⟩ = some (.int .i64 ((Zf l0 x3_2).f2)) := (Zn BK160.out 2).trans rfl; have hfz45_0 := Zz BK160.out 0; have hfz45_1 := Zz BK160.out 1; have hfz45_2 := Zz BK160.out 2; have p162 : 0 ≤ ((ji40) : Int) := of_decide_eq_true (by first | (with_reducible assumption) | assumption); have q162 : (ji40) < (l0.length : Int) := of_decide_eq_true (by first | (with_reducible assumption) | assumption); obtain ⟨ad162,e162,hx162_0,hx162_1,hx162_2⟩ := Xm HR0.out (ji40) p162 q162
                         obtain rfl : ad159 = ad162 := (by injection e162)
                         replace hx162_0 := (HB.out.cell (World.block_lt_of_cell? w _ hx162_0)).trans hx162_0; replace hx162_1 := (HB.out.cell (World.block_lt_of_cell? w _ hx162_1)).trans hx162_1; replace hx162_2 := (HB.out.cell (World.block_lt_of_cell? w _ hx162_2)).trans hx162_2; replace p162 := eq_true p162; replace q162 := eq_true q162
                         go_wp2
                         repeat (go_quiet (fail); try go_wp2)
                         go_roundg kj8
                         case measure => have := HJ1.out; have := HK2.out; have := HJ8.out; omega
                         case rel => exact ⟨(ji40),(by first | rfl | (simp; done) | (simp only [← hji40] <;> (first | rfl | simp)) | (simp [*]; done)),H',⟨by have := HJ1.out; have := HK2.out; have := HJ8.out; omega⟩,⟨by repeat (first | (with_reducible first | exact HB.out | apply Zd | apply Za | apply Zb | refine ZK ?_ GE160.out) | exact HB.out)⟩⟩
                     · rw [if_neg c42] at H
                       exact absurd H (by simp)
                   · rw [if_neg c41] at H
                     exact absurd H (by simp)
               · rw [if_neg c37] at H
                 have c37b0 : (((Zf l0 x3_2).f2) == 1) = false := beq_eq_false_iff_ne.mpr c37; have c37b1 : (((Zf l0 x3_2).f2) != 1) = true := bne_iff_ne.mpr c37; have H' := Zc.mk H; clear H; have hcz46_0 : wc.cell? ⟨gb160,0,none⟩ = some (.int .i64 ((Zf l0 x3_2).f0)) := (Zn BK160.out 0).trans rfl; have hcz46_1 : wc.cell? ⟨gb160,1,none⟩ = some (.int .i64 ((Zf l0 x3_2).f1)) := (Zn BK160.out 1).trans rfl; have hcz46_2 : wc.cell? ⟨gb160,2,none⟩ = some (.int .i64 ((Zf l0 x3_2).f2)) := (Zn BK160.out 2).trans rfl; have hfz46_0 := Zz BK160.out 0; have hfz46_1 := Zz BK160.out 1; have hfz46_2 := Zz BK160.out 2
                 go_wp2
                 repeat (go_quiet (fail); try go_wp2)
                 go_roundg kj8
                 case measure => have := HJ1.out; have := HK2.out; have := HJ8.out; omega
                 case rel => exact ⟨(wrap64 (x3_2 + 1)),(by first | rfl | (simp; done) | (simp [*]; done)),H',⟨by have := HJ1.out; have := HK2.out; have := HJ8.out; omega⟩,⟨by repeat (first | (with_reducible first | exact HB.out | apply Zd | apply Za | apply Zb | refine ZK ?_ GE160.out) | exact HB.out)⟩⟩
         · rw [if_neg c8] at H
           exact absurd H (by simp)
       · rw [if_neg c7] at H
         have c7b0 : decide (x3_2 < (l0.length : Int)) = false := decide_eq_false c7; clear c7; obtain rfl := Option.some.inj H
         go_wp2
         repeat (go_quiet (fail); try go_wp2)
         go_ret; exact ⟨by first | rfl | (simp [Zv,Zu] <;> rfl) | (simp [*,Zv,Zu] <;> rfl),by repeat (first | (with_reducible first | exact HB.out | apply Zd | apply Za | apply Zb) | exact HB.out)⟩
end Go.Proofs.Ytomlfbmfdoallaa.PA

namespace Go.Proofs.Ytomlfbmfdoallaa.PA
open Go.RowKit Go.Proofs.YtomlfbmfdoallaaW.PrintWords Go.Proofs.YtomlfbmfdoallaaW.PrintLast Go.Proofs.YtomlfbmfdoallaaW.PrintMore
attribute [local go_sem] Xf Xg Xo Xn Xa ZZ Xh Xi
set_option linter.unusedVariables false
set_option linter.unusedSimpArgs false
def Z8.f (a0 : Int) : Option (Bool) := if a0 ≥ 0 then (some (decide (a0 ≤ 1000000000))) else (some false)
set_option maxHeartbeats 8000000 in
set_option maxRecDepth 100000 in
theorem Z8.calls (a0 : Int) (r : Bool) (w : World) (h : Z8.f a0 = some r) :
 Calls Try.prog 50 #[.int .i64 a0] w fun e w' => e = .returned (.bool r) ∧ Drawn0 w w' := by
 have H : (if a0 ≥ 0 then (some (decide (a0 ≤ 1000000000))) else (some false)) = some r := h; clear h
 by_cases c2 : a0 ≥ 0
 · rw [if_pos c2] at H
   have c2b0 : decide (0 ≤ a0) = true := decide_eq_true c2; clear c2; obtain rfl := Option.some.inj H
   go_enter Try.func50,Try.ntmps50
   go_wp2
   go_ret; exact ⟨by first | rfl | (simp; done) | (simp [*]; done),by repeat (first | exact Drawn0.refl _ | apply Drawn0.step)⟩
 · rw [if_neg c2] at H
   have c2b0 : decide (0 ≤ a0) = false := decide_eq_false c2; clear c2; obtain rfl := Option.some.inj H
   go_enter Try.func50,Try.ntmps50
   go_wp2
   go_ret; exact ⟨by first | rfl | (simp; done) | (simp [*]; done),by repeat (first | exact Drawn0.refl _ | apply Drawn0.step)⟩
end Go.Proofs.Ytomlfbmfdoallaa.PA

namespace Go.Proofs.Ytomlfbmfdoallaa.PA
open Go.RowKit Go.Proofs.YtomlfbmfdoallaaW.PrintWords Go.Proofs.YtomlfbmfdoallaaW.PrintLast Go.Proofs.YtomlfbmfdoallaaW.PrintMore
attribute [local go_sem] Xf Xg Xo Xn Xa ZZ Xh Xi
set_option linter.unusedVariables false
set_option linter.unusedSimpArgs false
def ZC.l0 : Nat → List (S27) → Int → Int → Option (Int)
 | 0,_,_,_ => none
 | k + 1,x0,x1,x5 => if (wrap64 (x5 + 1)) < (x0.length : Int) then (if 0 ≤ (wrap64 (x5 + 1)) then (if ((Zf x0 (wrap64 (x5 + 1))).f0) ≤ x1 then (ZC.l0 k x0 x1 (wrap64 (x5 + 1))) else (some x5)) else (none)) else (some x5)
def ZC.f (k : Nat) (l0 : List (S27)) (a1 : Int) : Option (Int) := ZC.l0 k l0 a1 0
theorem ZC.Xq : ∀ k,(∀ y0 y1 y2,LeO (ZC.l0 k y0 y1 y2) (ZC.l0 (k + 1) y0 y1 y2))
 | 0 => fun _ _ _ r h => by simp [ZC.l0] at h
 | k + 1 => by
  have ih0 := ZC.Xq k
  · intro y0 y1 y2
    unfold ZC.l0
    repeat' first
    | (with_reducible exact ih0 _ _ _)
    | (with_reducible exact LeO.refl _)
    | (with_reducible exact LeO.none _)
    | (with_reducible refine LeO.ite ?_ ?_)
    | (with_reducible refine LeO.bind ?_ (fun _ => ?_))
    | exact ih0 _ _ _
    | exact LeO.none _
    | refine LeO.ite ?_ ?_
    | refine LeO.bind ?_ (fun _ => ?_)
theorem ZC.mono : ∀ a0 a1 k,LeO (ZC.f k a0 a1) (ZC.f (k + 1) a0 a1) := by
 intro a0 a1 k; have ih0 := ZC.Xq k; unfold ZC.f
 repeat' first
  | (with_reducible exact ih0 _ _ _)
  | (with_reducible exact LeO.refl _)
  | (with_reducible exact LeO.none _)
  | (with_reducible refine LeO.ite ?_ ?_)
  | (with_reducible refine LeO.bind ?_ (fun _ => ?_))
  | exact ih0 _ _ _
  | exact LeO.none _
  | refine LeO.ite ?_ ?_
  | refine LeO.bind ?_ (fun _ => ?_)
set_option maxHeartbeats 8000000 in
set_option maxRecDepth 100000 in
theorem ZC.calls (k : Nat) (A0 : Option Addr) (c0 : Nat) (l0 : List (S27)) (a1 : Int) (r : Int) (w : World) (hr0 : Kd.C k27 w A0 l0.length l0) (hc0 : l0.length ≤ c0) (h : ZC.f k l0 a1 = some r) :
 Calls Try.prog 56 #[.slice A0 l0.length c0,.int .i64 a1] w fun e w' => e = .returned (.int .i64 r) ∧ Drawn0 w w' := by
 have HR0 := Zc.mk hr0; have HC0 := Zc.mk hc0; clear hr0 hc0; have H : (ZC.l0 k l0 a1 0) = some r := h; clear h; have H' := Zc.mk H; clear H
 go_enter Try.func56,Try.ntmps56
 go_wp2
 go_loopg [5] k (fun kq v5 w' => ∃ (x5_1 : Int),v5 = .int .i64 x5_1 ∧ Zc (ZC.l0 kq l0 a1 x5_1 = some r) ∧ Zc (kq ≤ k) ∧ Drawn0 w w')
 case atStart => exact ⟨(0),(by first | rfl | (simp; done) | (simp [*]; done)),H',⟨Nat.le_refl _⟩,by repeat (first | exact Drawn0.refl _ | apply Drawn0.step)⟩
 case round =>
  clear H'
  (try clear p2)
  obtain ⟨x5_1,rfl,HA,HK1,⟨m1,rfl⟩⟩ := hrel
  cases gk with
  | zero => exact absurd HA.out (by simp [ZC.l0])
  | succ k1 =>
   have H := HA.out; clear HA; simp only [ZC.l0] at H
   by_cases c3 : (wrap64 (x5_1 + 1)) < (l0.length : Int)
   · rw [if_pos c3] at H
     have c3b0 : decide ((wrap64 (x5_1 + 1)) < (l0.length : Int)) = true := decide_eq_true c3; clear c3
     obtain ⟨ji4,hji4⟩ : ∃ j_ : Int,(wrap64 (x5_1 + 1)) = j_ := ⟨_,rfl⟩
     replace H : (if 0 ≤ (ji4) then (if ((Zf l0 (ji4)).f0) ≤ a1 then (ZC.l0 k1 l0 a1 ji4) else (some x5_1)) else (none)) = some r := by first | (rw [hji4] at H; exact H) | (simp only [hji4] at H ⊢; exact H)
     (try rw [hji4] at c3b0)
     have hji4w : (IntKind.i64.wrap (x5_1 + 1)) = ji4 := (i64_w _).trans hji4
     by_cases c5 : 0 ≤ (ji4)
     · rw [if_pos c5] at H
       have c5b0 : decide (0 ≤ (ji4)) = true := decide_eq_true c5; clear c5
       by_cases c6 : ((Zf l0 (ji4)).f0) ≤ a1
       · rw [if_pos c6] at H
         have c6b0 : decide (((Zf l0 (ji4)).f0) ≤ a1) = true := decide_eq_true c6; clear c6; have H' := Zc.mk H; clear H; have p268 : 0 ≤ ((ji4) : Int) := of_decide_eq_true (by first | (with_reducible assumption) | assumption); have q268 : (ji4) < (l0.length : Int) := of_decide_eq_true (by first | (with_reducible assumption) | assumption); obtain ⟨ad268,e268,hx268_0,hx268_1,hx268_2⟩ := Xm HR0.out (ji4) p268 q268
         cases e268
         replace p268 := eq_true p268; replace q268 := eq_true q268
         go_wp2
         go_roundg k1
         case measure => have := HK1.out; omega
         case rel => exact ⟨(ji4),(by first | rfl | (simp; done) | (simp only [← hji4] <;> (first | rfl | simp)) | (simp [*]; done)),H',⟨by have := HK1.out; omega⟩,by repeat (first | exact Drawn0.refl _ | apply Drawn0.step)⟩
       · rw [if_neg c6] at H
         have c6b0 : decide (((Zf l0 (ji4)).f0) ≤ a1) = false := decide_eq_false c6; clear c6; obtain rfl := Option.some.inj H; have p268 : 0 ≤ ((ji4) : Int) := of_decide_eq_true (by first | (with_reducible assumption) | assumption); have q268 : (ji4) < (l0.length : Int) := of_decide_eq_true (by first | (with_reducible assumption) | assumption); obtain ⟨ad268,e268,hx268_0,hx268_1,hx268_2⟩ := Xm HR0.out (ji4) p268 q268
         cases e268
         replace p268 := eq_true p268; replace q268 := eq_true q268
         go_wp2
         go_ret; exact ⟨by first | rfl | (simp; done) | (simp only [← hji4] <;> (first | rfl | simp)) | (simp [*]; done),by repeat (first | exact Drawn0.refl _ | apply Drawn0.step)⟩
     · rw [if_neg c5] at H
       exact absurd H (by simp)
   · rw [if_neg c3] at H
     have c3b0 : decide ((wrap64 (x5_1 + 1)) < (l0.length : Int)) = false := decide_eq_false c3; clear c3; obtain rfl := Option.some.inj H
     go_wp2
     go_ret; exact ⟨by first | rfl | (simp; done) | (simp [*]; done),by repeat (first | exact Drawn0.refl _ | apply Drawn0.step)⟩
end Go.Proofs.Ytomlfbmfdoallaa.PA

namespace Go.Proofs.Ytomlfbmfdoallaa.PA
open Go.RowKit Go.Proofs.YtomlfbmfdoallaaW.PrintWords Go.Proofs.YtomlfbmfdoallaaW.PrintLast Go.Proofs.YtomlfbmfdoallaaW.PrintMore
attribute [local go_sem] Xf Xg Xo Xn Xa ZZ Xh Xi
set_option linter.unusedVariables false
set_option linter.unusedSimpArgs false
def ZF.f (a0 : Int) (a1 : Int) : Option (Int) := if a0 < 0 then (if (wrap64 (2 * a1)) = 0 then (none) else (some (wrap64 (-(wrap64 (Int.tdiv (wrap64 ((wrap64 ((wrap64 (-a0)) * 2)) + a1)) (wrap64 (2 * a1)))))))) else (if (wrap64 (2 * a1)) = 0 then (none) else (some (wrap64 (Int.tdiv (wrap64 ((wrap64 (a0 * 2)) + a1)) (wrap64 (2 * a1))))))
set_option maxHeartbeats 8000000 in
set_option maxRecDepth 100000 in
theorem ZF.calls (a0 : Int) (a1 : Int) (r : Int) (w : World) (h : ZF.f a0 a1 = some r) :
 Calls Try.prog 45 #[.int .i64 a0,.int .i64 a1] w fun e w' => e = .returned (.int .i64 r) ∧ Drawn0 w w' := by
 have H : (if a0 < 0 then (if (wrap64 (2 * a1)) = 0 then (none) else (some (wrap64 (-(wrap64 (Int.tdiv (wrap64 ((wrap64 ((wrap64 (-a0)) * 2)) + a1)) (wrap64 (2 * a1)))))))) else (if (wrap64 (2 * a1)) = 0 then (none) else (some (wrap64 (Int.tdiv (wrap64 ((wrap64 (a0 * 2)) + a1)) (wrap64 (2 * a1))))))) = some r := h; clear h
 by_cases c3 : a0 < 0
 · rw [if_pos c3] at H
   have c3b0 : decide (a0 < 0) = true := decide_eq_true c3; clear c3
   by_cases c4 : (wrap64 (2 * a1)) = 0
   · rw [if_pos c4] at H
     exact absurd H (by simp)
   · rw [if_neg c4] at H
     have c4b0 : ((wrap64 (2 * a1)) == 0) = false := beq_eq_false_iff_ne.mpr c4; have c4b1 : ((wrap64 (2 * a1)) != 0) = true := bne_iff_ne.mpr c4; obtain rfl := Option.some.inj H
     go_enter Try.func45,Try.ntmps45
     go_wp2
     go_ret; exact ⟨by first | rfl | (simp; done) | (simp [*]; done),by repeat (first | exact Drawn0.refl _ | apply Drawn0.step)⟩
 · rw [if_neg c3] at H
   have c3b0 : decide (a0 < 0) = false := decide_eq_false c3; clear c3
   by_cases c5 : (wrap64 (2 * a1)) = 0
   · rw [if_pos c5] at H
     exact absurd H (by simp)
   · rw [if_neg c5] at H
     have c5b0 : ((wrap64 (2 * a1)) == 0) = false := beq_eq_false_iff_ne.mpr c5; have c5b1 : ((wrap64 (2 * a1)) != 0) = true := bne_iff_ne.mpr c5; obtain rfl := Option.some.inj H
     go_enter Try.func45,Try.ntmps45
     go_wp2
     go_ret; exact ⟨by first | rfl | (simp; done) | (simp [*]; done),by repeat (first | exact Drawn0.refl _ | apply Drawn0.step)⟩
end Go.Proofs.Ytomlfbmfdoallaa.PA

namespace Go.Proofs.Ytomlfbmfdoallaa.PA
open Go.RowKit Go.Proofs.YtomlfbmfdoallaaW.PrintWords Go.Proofs.YtomlfbmfdoallaaW.PrintLast Go.Proofs.YtomlfbmfdoallaaW.PrintMore
attribute [local go_sem] Xf Xg Xo Xn Xa ZZ Xh Xi
set_option linter.unusedVariables false
set_option linter.unusedSimpArgs false
def ZT.f (l0 : List (S27)) (a1 : Int) (a2 : Int) : Option (Int) := if 0 ≤ a1 then (if a1 < (l0.length : Int) then (if ((Zf l0 a1).f2) = 0 then ((ZF.f (wrap64 (a2 * ((Zf l0 a1).f1))) 65536).bind fun t271 => (some t271)) else (if 0 ≤ (wrap64 (a1 + 1)) then (if (wrap64 (a1 + 1)) < (l0.length : Int) then ((ZF.f (wrap64 ((wrap64 ((wrap64 ((wrap64 (2 * (wrap64 (((Zf l0 (wrap64 (a1 + 1))).f0) - ((Zf l0 a1).f0))))) * a2)) * ((Zf l0 a1).f1))) + (wrap64 ((wrap64 ((wrap64 (((Zf l0 (wrap64 (a1 + 1))).f1) - ((Zf l0 a1).f1))) * a2)) * (wrap64 (a2 - 1)))))) (wrap64 ((wrap64 (2 * (wrap64 (((Zf l0 (wrap64 (a1 + 1))).f0) - ((Zf l0 a1).f0))))) * 65536))).bind fun t275 => (some t275)) else (none)) else (none))) else (none)) else (none)
set_option maxHeartbeats 8000000 in
set_option maxRecDepth 100000 in
theorem ZT.calls (A0 : Option Addr) (c0 : Nat) (l0 : List (S27)) (a1 : Int) (a2 : Int) (r : Int) (w : World) (hr0 : Kd.C k27 w A0 l0.length l0) (hc0 : l0.length ≤ c0) (h : ZT.f l0 a1 a2 = some r) :
 Calls Try.prog 70 #[.slice A0 l0.length c0,.int .i64 a1,.int .i64 a2] w fun e w' => e = .returned (.int .i64 r) ∧ Drawn0 w w' := by
 have HR0 := Zc.mk hr0; have HC0 := Zc.mk hc0; clear hr0 hc0; have H : (if 0 ≤ a1 then (if a1 < (l0.length : Int) then (if ((Zf l0 a1).f2) = 0 then ((ZF.f (wrap64 (a2 * ((Zf l0 a1).f1))) 65536).bind fun t271 => (some t271)) else (if 0 ≤ (wrap64 (a1 + 1)) then (if (wrap64 (a1 + 1)) < (l0.length : Int) then ((ZF.f (wrap64 ((wrap64 ((wrap64 ((wrap64 (2 * (wrap64 (((Zf l0 (wrap64 (a1 + 1))).f0) - ((Zf l0 a1).f0))))) * a2)) * ((Zf l0 a1).f1))) + (wrap64 ((wrap64 ((wrap64 (((Zf l0 (wrap64 (a1 + 1))).f1) - ((Zf l0 a1).f1))) * a2)) * (wrap64 (a2 - 1)))))) (wrap64 ((wrap64 (2 * (wrap64 (((Zf l0 (wrap64 (a1 + 1))).f0) - ((Zf l0 a1).f0))))) * 65536))).bind fun t275 => (some t275)) else (none)) else (none))) else (none)) else (none)) = some r := h; clear h
 by_cases c4 : 0 ≤ a1
 · rw [if_pos c4] at H
   have c4b0 : decide (0 ≤ a1) = true := decide_eq_true c4; clear c4
   by_cases c5 : a1 < (l0.length : Int)
   · rw [if_pos c5] at H
     have c5b0 : decide (a1 < (l0.length : Int)) = true := decide_eq_true c5; clear c5
     by_cases c6 : ((Zf l0 a1).f2) = 0
     · rw [if_pos c6] at H
       have c6b0 : (((Zf l0 a1).f2) == 0) = true := beq_iff_eq.mpr c6; have c6b1 : (((Zf l0 a1).f2) != 0) = false := bne_eq_false_iff_eq.mpr c6; clear c6; replace H := Option.bind_eq_some_iff.mp H; obtain ⟨t271,A70,H⟩ := H; replace H : (some t271) = some r := H; have A7 := Zc.mk A70; clear A70; obtain rfl := Option.some.inj H; have p269 : 0 ≤ (a1 : Int) := of_decide_eq_true (by first | (with_reducible assumption) | assumption); have q269 : a1 < (l0.length : Int) := of_decide_eq_true (by first | (with_reducible assumption) | assumption); obtain ⟨ad269,e269,hx269_0,hx269_1,hx269_2⟩ := Xm HR0.out a1 p269 q269
       cases e269
       replace p269 := eq_true p269; replace q269 := eq_true q269; have p270 : 0 ≤ (a1 : Int) := of_decide_eq_true (by first | (with_reducible assumption) | assumption); have q270 : a1 < (l0.length : Int) := of_decide_eq_true (by first | (with_reducible assumption) | assumption); obtain ⟨ad270,e270,hx270_0,hx270_1,hx270_2⟩ := Xm HR0.out a1 p270 q270
       obtain rfl : ad269 = ad270 := (by injection e270)
       replace p270 := eq_true p270; replace q270 := eq_true q270
       go_enter Try.func70,Try.ntmps70
       go_wp2_with (first | (go_at_call 45; (with_reducible refine (ZF.calls (wrap64 (a2 * ((Zf l0 a1).f1))) 65536 t271 _ A7.out).mono ?_); rintro e w' ⟨rfl,⟨nd,rfl⟩⟩; (try first | exact ⟨rfl,_,World.drewN_drewN _ _ _⟩ | exact ⟨rfl,_,Eq.trans (World.drewN_drewN _ _ _) (congrArg (World.drewN _) (Nat.add_assoc _ _ _))⟩)))
       repeat (go_quiet (first | (go_at_call 45; (with_reducible refine (ZF.calls (wrap64 (a2 * ((Zf l0 a1).f1))) 65536 t271 _ A7.out).mono ?_); rintro e w' ⟨rfl,⟨nd,rfl⟩⟩; (try first | exact ⟨rfl,_,World.drewN_drewN _ _ _⟩ | exact ⟨rfl,_,Eq.trans (World.drewN_drewN _ _ _) (congrArg (World.drewN _) (Nat.add_assoc _ _ _))⟩))); try go_wp2_with (first | (go_at_call 45; (with_reducible refine (ZF.calls (wrap64 (a2 * ((Zf l0 a1).f1))) 65536 t271 _ A7.out).mono ?_); rintro e w' ⟨rfl,⟨nd,rfl⟩⟩; (try first | exact ⟨rfl,_,World.drewN_drewN _ _ _⟩ | exact ⟨rfl,_,Eq.trans (World.drewN_drewN _ _ _) (congrArg (World.drewN _) (Nat.add_assoc _ _ _))⟩))))
       go_ret; exact ⟨by first | rfl | (simp; done) | (simp [*]; done),by repeat (first | exact Drawn0.refl _ | apply Drawn0.step)⟩
     · rw [if_neg c6] at H
       have c6b0 : (((Zf l0 a1).f2) == 0) = false := beq_eq_false_iff_ne.mpr c6; have c6b1 : (((Zf l0 a1).f2) != 0) = true := bne_iff_ne.mpr c6
       obtain ⟨ji8,hji8⟩ : ∃ j_ : Int,(wrap64 (a1 + 1)) = j_ := ⟨_,rfl⟩
       replace H : (if 0 ≤ (ji8) then (if (ji8) < (l0.length : Int) then ((ZF.f (wrap64 ((wrap64 ((wrap64 ((wrap64 (2 * (wrap64 (((Zf l0 (ji8)).f0) - ((Zf l0 a1).f0))))) * a2)) * ((Zf l0 a1).f1))) + (wrap64 ((wrap64 ((wrap64 (((Zf l0 (ji8)).f1) - ((Zf l0 a1).f1))) * a2)) * (wrap64 (a2 - 1)))))) (wrap64 ((wrap64 (2 * (wrap64 (((Zf l0 (ji8)).f0) - ((Zf l0 a1).f0))))) * 65536))).bind fun t275 => (some t275)) else (none)) else (none)) = some r := by first | (rw [hji8] at H; exact H) | (simp only [hji8] at H ⊢; exact H)
       have hji8w : (IntKind.i64.wrap (a1 + 1)) = ji8 := (i64_w _).trans hji8
       by_cases c9 : 0 ≤ (ji8)
       · rw [if_pos c9] at H
         have c9b0 : decide (0 ≤ (ji8)) = true := decide_eq_true c9; clear c9
         by_cases c10 : (ji8) < (l0.length : Int)
         · rw [if_pos c10] at H
           have c10b0 : decide ((ji8) < (l0.length : Int)) = true := decide_eq_true c10; clear c10; replace H := Option.bind_eq_some_iff.mp H; obtain ⟨t275,A110,H⟩ := H; replace H : (some t275) = some r := H; have A11 := Zc.mk A110; clear A110; obtain rfl := Option.some.inj H; have p269 : 0 ≤ (a1 : Int) := of_decide_eq_true (by first | (with_reducible assumption) | assumption); have q269 : a1 < (l0.length : Int) := of_decide_eq_true (by first | (with_reducible assumption) | assumption); obtain ⟨ad269,e269,hx269_0,hx269_1,hx269_2⟩ := Xm HR0.out a1 p269 q269
           cases e269
           replace p269 := eq_true p269; replace q269 := eq_true q269; have p270 : 0 ≤ (a1 : Int) := of_decide_eq_true (by first | (with_reducible assumption) | assumption); have q270 : a1 < (l0.length : Int) := of_decide_eq_true (by first | (with_reducible assumption) | assumption); obtain ⟨ad270,e270,hx270_0,hx270_1,hx270_2⟩ := Xm HR0.out a1 p270 q270
           obtain rfl : ad269 = ad270 := (by injection e270)
           replace p270 := eq_true p270; replace q270 := eq_true q270; have p272 : 0 ≤ ((ji8) : Int) := of_decide_eq_true (by first | (with_reducible assumption) | assumption); have q272 : (ji8) < (l0.length : Int) := of_decide_eq_true (by first | (with_reducible assumption) | assumption); obtain ⟨ad272,e272,hx272_0,hx272_1,hx272_2⟩ := Xm HR0.out (ji8) p272 q272
           obtain rfl : ad269 = ad272 := (by injection e272)
           replace p272 := eq_true p272; replace q272 := eq_true q272; have p273 : 0 ≤ (a1 : Int) := of_decide_eq_true (by first | (with_reducible assumption) | assumption); have q273 : a1 < (l0.length : Int) := of_decide_eq_true (by first | (with_reducible assumption) | assumption); obtain ⟨ad273,e273,hx273_0,hx273_1,hx273_2⟩ := Xm HR0.out a1 p273 q273
           obtain rfl : ad269 = ad273 := (by injection e273)
           replace p273 := eq_true p273; replace q273 := eq_true q273; have p274 : 0 ≤ ((ji8) : Int) := of_decide_eq_true (by first | (with_reducible assumption) | assumption); have q274 : (ji8) < (l0.length : Int) := of_decide_eq_true (by first | (with_reducible assumption) | assumption); obtain ⟨ad274,e274,hx274_0,hx274_1,hx274_2⟩ := Xm HR0.out (ji8) p274 q274
           obtain rfl : ad269 = ad274 := (by injection e274)
           replace p274 := eq_true p274; replace q274 := eq_true q274
           go_enter Try.func70,Try.ntmps70
           go_wp2_with (first | (go_at_call 45; (with_reducible refine (ZF.calls (wrap64 ((wrap64 ((wrap64 ((wrap64 (2 * (wrap64 (((Zf l0 (ji8)).f0) - ((Zf l0 a1).f0))))) * a2)) * ((Zf l0 a1).f1))) + (wrap64 ((wrap64 ((wrap64 (((Zf l0 (ji8)).f1) - ((Zf l0 a1).f1))) * a2)) * (wrap64 (a2 - 1)))))) (wrap64 ((wrap64 (2 * (wrap64 (((Zf l0 (ji8)).f0) - ((Zf l0 a1).f0))))) * 65536)) t275 _ A11.out).mono ?_); rintro e w' ⟨rfl,⟨nd,rfl⟩⟩; (try first | exact ⟨rfl,_,World.drewN_drewN _ _ _⟩ | exact ⟨rfl,_,Eq.trans (World.drewN_drewN _ _ _) (congrArg (World.drewN _) (Nat.add_assoc _ _ _))⟩)))
           repeat (go_quiet (first | (go_at_call 45; (with_reducible refine (ZF.calls (wrap64 ((wrap64 ((wrap64 ((wrap64 (2 * (wrap64 (((Zf l0 (ji8)).f0) - ((Zf l0 a1).f0))))) * a2)) * ((Zf l0 a1).f1))) + (wrap64 ((wrap64 ((wrap64 (((Zf l0 (ji8)).f1) - ((Zf l0 a1).f1))) * a2)) * (wrap64 (a2 - 1)))))) (wrap64 ((wrap64 (2 * (wrap64 (((Zf l0 (ji8)).f0) - ((Zf l0 a1).f0))))) * 65536)) t275 _ A11.out).mono ?_); rintro e w' ⟨rfl,⟨nd,rfl⟩⟩; (try first | exact ⟨rfl,_,World.drewN_drewN _ _ _⟩ | exact ⟨rfl,_,Eq.trans (World.drewN_drewN _ _ _) (congrArg (World.drewN _) (Nat.add_assoc _ _ _))⟩))); try go_wp2_with (first | (go_at_call 45; (with_reducible refine (ZF.calls (wrap64 ((wrap64 ((wrap64 ((wrap64 (2 * (wrap64 (((Zf l0 (ji8)).f0) - ((Zf l0 a1).f0))))) * a2)) * ((Zf l0 a1).f1))) + (wrap64 ((wrap64 ((wrap64 (((Zf l0 (ji8)).f1) - ((Zf l0 a1).f1))) * a2)) * (wrap64 (a2 - 1)))))) (wrap64 ((wrap64 (2 * (wrap64 (((Zf l0 (ji8)).f0) - ((Zf l0 a1).f0))))) * 65536)) t275 _ A11.out).mono ?_); rintro e w' ⟨rfl,⟨nd,rfl⟩⟩; (try first | exact ⟨rfl,_,World.drewN_drewN _ _ _⟩ | exact ⟨rfl,_,Eq.trans (World.drewN_drewN _ _ _) (congrArg (World.drewN _) (Nat.add_assoc _ _ _))⟩))))
           go_ret; exact ⟨by first | rfl | (simp; done) | (simp only [← hji8] <;> (first | rfl | simp)) | (simp [*]; done),by repeat (first | exact Drawn0.refl _ | apply Drawn0.step)⟩
         · rw [if_neg c10] at H
           exact absurd H (by simp)
       · rw [if_neg c9] at H
         exact absurd H (by simp)
   · rw [if_neg c5] at H
     exact absurd H (by simp)
 · rw [if_neg c4] at H
   exact absurd H (by simp)
end Go.Proofs.Ytomlfbmfdoallaa.PA

namespace Go.Proofs.Ytomlfbmfdoallaa.PA
open Go.RowKit Go.Proofs.YtomlfbmfdoallaaW.PrintWords Go.Proofs.YtomlfbmfdoallaaW.PrintLast Go.Proofs.YtomlfbmfdoallaaW.PrintMore
attribute [local go_sem] Xf Xg Xo Xn Xa ZZ Xh Xi
set_option linter.unusedVariables false
set_option linter.unusedSimpArgs false
def Z7.l0 : Nat → List (S27) → Int → Int → Int → Option (Int)
 | 0,_,_,_,_ => none
 | k + 1,x0,x1,x2,x7 => if (wrap64 (x7 + 1)) < (x0.length : Int) then (if 0 ≤ (wrap64 (x7 + 1)) then (if ((Zf x0 (wrap64 (x7 + 1))).f0) ≤ x2 then (if 0 ≤ x7 then (if x7 < (x0.length : Int) then ((ZT.f x0 x7 (wrap64 (((Zf x0 (wrap64 (x7 + 1))).f0) - ((Zf x0 x7).f0)))).bind fun t279 => (Z7.l0 k x0 (wrap64 (x1 + t279)) x2 (wrap64 (x7 + 1)))) else (none)) else (none)) else ((ZC.f k x0 x2).bind fun t280 => (if 0 ≤ t280 then (if t280 < (x0.length : Int) then ((ZT.f x0 t280 (wrap64 (x2 - ((Zf x0 t280).f0)))).bind fun t282 => (some (wrap64 (x1 + t282)))) else (none)) else (none)))) else (none)) else ((ZC.f k x0 x2).bind fun t283 => (if 0 ≤ t283 then (if t283 < (x0.length : Int) then ((ZT.f x0 t283 (wrap64 (x2 - ((Zf x0 t283).f0)))).bind fun t285 => (some (wrap64 (x1 + t285)))) else (none)) else (none)))
def Z7.f (k : Nat) (l0 : List (S27)) (a1 : Int) (a2 : Int) : Option (Int) := Z7.l0 k l0 a1 a2 0
theorem Z7.Xq : ∀ k,(∀ y0 y1 y2 y3,LeO (Z7.l0 k y0 y1 y2 y3) (Z7.l0 (k + 1) y0 y1 y2 y3))
 | 0 => fun _ _ _ _ r h => by simp [Z7.l0] at h
 | k + 1 => by
  have ih0 := Z7.Xq k
  · intro y0 y1 y2 y3
    unfold Z7.l0
    repeat' first
    | (with_reducible exact ih0 _ _ _ _)
    | (with_reducible exact ZC.mono _ _ _)
    | (with_reducible exact LeO.refl _)
    | (with_reducible exact LeO.none _)
    | (with_reducible refine LeO.ite ?_ ?_)
    | (with_reducible refine LeO.bind ?_ (fun _ => ?_))
    | exact ih0 _ _ _ _
    | exact ZC.mono _ _ _
    | exact LeO.none _
    | refine LeO.ite ?_ ?_
    | refine LeO.bind ?_ (fun _ => ?_)
theorem Z7.mono : ∀ a0 a1 a2 k,LeO (Z7.f k a0 a1 a2) (Z7.f (k + 1) a0 a1 a2) := by
 intro a0 a1 a2 k; have ih0 := Z7.Xq k; unfold Z7.f
 repeat' first
  | (with_reducible exact ih0 _ _ _ _)
  | (with_reducible exact ZC.mono _ _ _)
  | (with_reducible exact LeO.refl _)
  | (with_reducible exact LeO.none _)
  | (with_reducible refine LeO.ite ?_ ?_)
  | (with_reducible refine LeO.bind ?_ (fun _ => ?_))
  | exact ih0 _ _ _ _
  | exact ZC.mono _ _ _
  | exact LeO.none _
  | refine LeO.ite ?_ ?_
  | refine LeO.bind ?_ (fun _ => ?_)
set_option maxHeartbeats 8000000 in
set_option maxRecDepth 100000 in
theorem Z7.calls (k : Nat) (A0 : Option Addr) (c0 : Nat) (l0 : List (S27)) (a1 : Int) (a2 : Int) (r : Int) (w : World) (hr0 : Kd.C k27 w A0 l0.length l0) (hc0 : l0.length ≤ c0) (h : Z7.f k l0 a1 a2 = some r) :
 Calls Try.prog 53 #[.slice A0 l0.length c0,.int .i64 a1,.int .i64 a2] w fun e w' => e = .returned (.int .i64 r) ∧ Drawn0 w w' := by
 have HR0 := Zc.mk hr0; have HC0 := Zc.mk hc0; clear hr0 hc0; have H : (Z7.l0 k l0 a1 a2 0) = some r := h; clear h; have H' := Zc.mk H; clear H
 go_enter Try.func53,Try.ntmps53
 go_wp2
 repeat (go_quiet (fail); try go_wp2)
 go_loopg [1,7] k (fun kq v1 v7 w' => ∃ (x1_1 : Int) (x7_1 : Int),v1 = .int .i64 x1_1 ∧ v7 = .int .i64 x7_1 ∧ Zc (Z7.l0 kq l0 x1_1 a2 x7_1 = some r) ∧ Zc (kq ≤ k) ∧ Drawn0 w w')
 case atStart => exact ⟨(a1),(0),(by first | rfl | (simp; done) | (simp [*]; done)),(by first | rfl | (simp; done) | (simp [*]; done)),H',⟨Nat.le_refl _⟩,by repeat (first | exact Drawn0.refl _ | apply Drawn0.step)⟩
 case round =>
  clear H'
  (try clear p2)
  obtain ⟨x1_1,x7_1,rfl,rfl,HA,HK1,⟨m1,rfl⟩⟩ := hrel
  cases gk with
  | zero => exact absurd HA.out (by simp [Z7.l0])
  | succ k1 =>
   have H := HA.out; clear HA; simp only [Z7.l0] at H
   by_cases c4 : (wrap64 (x7_1 + 1)) < (l0.length : Int)
   · rw [if_pos c4] at H
     have c4b0 : decide ((wrap64 (x7_1 + 1)) < (l0.length : Int)) = true := decide_eq_true c4; clear c4
     obtain ⟨ji5,hji5⟩ : ∃ j_ : Int,(wrap64 (x7_1 + 1)) = j_ := ⟨_,rfl⟩
     replace H : (if 0 ≤ (ji5) then (if ((Zf l0 (ji5)).f0) ≤ a2 then (if 0 ≤ x7_1 then (if x7_1 < (l0.length : Int) then ((ZT.f l0 x7_1 (wrap64 (((Zf l0 (ji5)).f0) - ((Zf l0 x7_1).f0)))).bind fun t279 => (Z7.l0 k1 l0 (wrap64 (x1_1 + t279)) a2 ji5)) else (none)) else (none)) else ((ZC.f k1 l0 a2).bind fun t280 => (if 0 ≤ t280 then (if t280 < (l0.length : Int) then ((ZT.f l0 t280 (wrap64 (a2 - ((Zf l0 t280).f0)))).bind fun t282 => (some (wrap64 (x1_1 + t282)))) else (none)) else (none)))) else (none)) = some r := by first | (rw [hji5] at H; exact H) | (simp only [hji5] at H ⊢; exact H)
     (try rw [hji5] at c4b0)
     have hji5w : (IntKind.i64.wrap (x7_1 + 1)) = ji5 := (i64_w _).trans hji5
     by_cases c6 : 0 ≤ (ji5)
     · rw [if_pos c6] at H
       have c6b0 : decide (0 ≤ (ji5)) = true := decide_eq_true c6; clear c6
       by_cases c7 : ((Zf l0 (ji5)).f0) ≤ a2
       · rw [if_pos c7] at H
         have c7b0 : decide (((Zf l0 (ji5)).f0) ≤ a2) = true := decide_eq_true c7; clear c7
         by_cases c8 : 0 ≤ x7_1
         · rw [if_pos c8] at H
           have c8b0 : decide (0 ≤ x7_1) = true := decide_eq_true c8; clear c8
           by_cases c9 : x7_1 < (l0.length : Int)
           · rw [if_pos c9] at H
             have c9b0 : decide (x7_1 < (l0.length : Int)) = true := decide_eq_true c9; clear c9; replace H := Option.bind_eq_some_iff.mp H; obtain ⟨t279,A100,H⟩ := H; replace H : (Z7.l0 k1 l0 (wrap64 (x1_1 + t279)) a2 ji5) = some r := H; have A10 := Zc.mk A100; clear A100; have H' := Zc.mk H; clear H; have p276 : 0 ≤ ((ji5) : Int) := of_decide_eq_true (by first | (with_reducible assumption) | assumption); have q276 : (ji5) < (l0.length : Int) := of_decide_eq_true (by first | (with_reducible assumption) | assumption); obtain ⟨ad276,e276,hx276_0,hx276_1,hx276_2⟩ := Xm HR0.out (ji5) p276 q276
             cases e276
             replace p276 := eq_true p276; replace q276 := eq_true q276; have p277 : 0 ≤ ((ji5) : Int) := of_decide_eq_true (by first | (with_reducible assumption) | assumption); have q277 : (ji5) < (l0.length : Int) := of_decide_eq_true (by first | (with_reducible assumption) | assumption); obtain ⟨ad277,e277,hx277_0,hx277_1,hx277_2⟩ := Xm HR0.out (ji5) p277 q277
             obtain rfl : ad276 = ad277 := (by injection e277)
             replace p277 := eq_true p277; replace q277 := eq_true q277; have p278 : 0 ≤ (x7_1 : Int) := of_decide_eq_true (by first | (with_reducible assumption) | assumption); have q278 : x7_1 < (l0.length : Int) := of_decide_eq_true (by first | (with_reducible assumption) | assumption); obtain ⟨ad278,e278,hx278_0,hx278_1,hx278_2⟩ := Xm HR0.out x7_1 p278 q278
             obtain rfl : ad276 = ad278 := (by injection e278)
             replace p278 := eq_true p278; replace q278 := eq_true q278
             go_wp2_with (first | (go_at_call 70; (with_reducible refine (ZT.calls _ _ l0 x7_1 (wrap64 (((Zf l0 (ji5)).f0) - ((Zf l0 x7_1).f0))) t279 _ ?side1 ?side2 A10.out).mono ?_); (case side1 => repeat (first | exact HR0.out | (with_reducible refine Kd.ZA ?_ _) | (with_reducible refine Kd.Z9 ?_ _) | (with_reducible refine Kd.ZI ?_))); (case side2 => exact HC0.out); rintro e w' ⟨rfl,⟨nd,rfl⟩⟩; (try first | exact ⟨rfl,_,World.drewN_drewN _ _ _⟩ | exact ⟨rfl,_,Eq.trans (World.drewN_drewN _ _ _) (congrArg (World.drewN _) (Nat.add_assoc _ _ _))⟩)))
             repeat (go_quiet (first | (go_at_call 70; (with_reducible refine (ZT.calls _ _ l0 x7_1 (wrap64 (((Zf l0 (ji5)).f0) - ((Zf l0 x7_1).f0))) t279 _ ?side1 ?side2 A10.out).mono ?_); (case side1 => repeat (first | exact HR0.out | (with_reducible refine Kd.ZA ?_ _) | (with_reducible refine Kd.Z9 ?_ _) | (with_reducible refine Kd.ZI ?_))); (case side2 => exact HC0.out); rintro e w' ⟨rfl,⟨nd,rfl⟩⟩; (try first | exact ⟨rfl,_,World.drewN_drewN _ _ _⟩ | exact ⟨rfl,_,Eq.trans (World.drewN_drewN _ _ _) (congrArg (World.drewN _) (Nat.add_assoc _ _ _))⟩))); try go_wp2_with (first | (go_at_call 70; (with_reducible refine (ZT.calls _ _ l0 x7_1 (wrap64 (((Zf l0 (ji5)).f0) - ((Zf l0 x7_1).f0))) t279 _ ?side1 ?side2 A10.out).mono ?_); (case side1 => repeat (first | exact HR0.out | (with_reducible refine Kd.ZA ?_ _) | (with_reducible refine Kd.Z9 ?_ _) | (with_reducible refine Kd.ZI ?_))); (case side2 => exact HC0.out); rintro e w' ⟨rfl,⟨nd,rfl⟩⟩; (try first | exact ⟨rfl,_,World.drewN_drewN _ _ _⟩ | exact ⟨rfl,_,Eq.trans (World.drewN_drewN _ _ _) (congrArg (World.drewN _) (Nat.add_assoc _ _ _))⟩))))
             go_roundg k1
             case measure => have := HK1.out; omega
             case rel => exact ⟨(wrap64 (x1_1 + t279)),(ji5),(by first | rfl | (simp; done) | (simp [*]; done)),(by first | rfl | (simp; done) | (simp only [← hji5] <;> (first | rfl | simp)) | (simp [*]; done)),H',⟨by have := HK1.out; omega⟩,by repeat (first | exact Drawn0.refl _ | apply Drawn0.step)⟩
           · rw [if_neg c9] at H
             exact absurd H (by simp)
         · rw [if_neg c8] at H
           exact absurd H (by simp)
       · rw [if_neg c7] at H
         have c7b0 : decide (((Zf l0 (ji5)).f0) ≤ a2) = false := decide_eq_false c7; clear c7; replace H := Option.bind_eq_some_iff.mp H; obtain ⟨t280,A110,H⟩ := H; replace H : (if 0 ≤ t280 then (if t280 < (l0.length : Int) then ((ZT.f l0 t280 (wrap64 (a2 - ((Zf l0 t280).f0)))).bind fun t282 => (some (wrap64 (x1_1 + t282)))) else (none)) else (none)) = some r := H; have A11 := Zc.mk A110; clear A110
         by_cases c12 : 0 ≤ t280
         · rw [if_pos c12] at H
           have c12b0 : decide (0 ≤ t280) = true := decide_eq_true c12; clear c12
           by_cases c13 : t280 < (l0.length : Int)
           · rw [if_pos c13] at H
             have c13b0 : decide (t280 < (l0.length : Int)) = true := decide_eq_true c13; clear c13; replace H := Option.bind_eq_some_iff.mp H; obtain ⟨t282,A140,H⟩ := H; replace H : (some (wrap64 (x1_1 + t282))) = some r := H; have A14 := Zc.mk A140; clear A140; obtain rfl := Option.some.inj H; have p276 : 0 ≤ ((ji5) : Int) := of_decide_eq_true (by first | (with_reducible assumption) | assumption); have q276 : (ji5) < (l0.length : Int) := of_decide_eq_true (by first | (with_reducible assumption) | assumption); obtain ⟨ad276,e276,hx276_0,hx276_1,hx276_2⟩ := Xm HR0.out (ji5) p276 q276
             cases e276
             replace p276 := eq_true p276; replace q276 := eq_true q276
             go_wp2_with (first | (go_at_call 56; (with_reducible refine (ZC.calls k1 _ _ l0 a2 t280 _ ?side1 ?side2 A11.out).mono ?_); (case side1 => repeat (first | exact HR0.out | (with_reducible refine Kd.ZA ?_ _) | (with_reducible refine Kd.Z9 ?_ _) | (with_reducible refine Kd.ZI ?_))); (case side2 => exact HC0.out); rintro e w' ⟨rfl,⟨nd,rfl⟩⟩; (try first | exact ⟨rfl,_,World.drewN_drewN _ _ _⟩ | exact ⟨rfl,_,Eq.trans (World.drewN_drewN _ _ _) (congrArg (World.drewN _) (Nat.add_assoc _ _ _))⟩); have p281 : 0 ≤ (t280 : Int) := of_decide_eq_true (by first | (with_reducible assumption) | assumption); have q281 : t280 < (l0.length : Int) := of_decide_eq_true (by first | (with_reducible assumption) | assumption); obtain ⟨ad281,e281,hx281_0,hx281_1,hx281_2⟩ := Xm HR0.out t280 p281 q281; obtain rfl : ad276 = ad281 := (by injection e281); replace p281 := eq_true p281; replace q281 := eq_true q281) | (go_at_call 70; (with_reducible refine (ZT.calls _ _ l0 t280 (wrap64 (a2 - ((Zf l0 t280).f0))) t282 _ ?side1 ?side2 A14.out).mono ?_); (case side1 => repeat (first | exact HR0.out | (with_reducible refine Kd.ZA ?_ _) | (with_reducible refine Kd.Z9 ?_ _) | (with_reducible refine Kd.ZI ?_))); (case side2 => exact HC0.out); rintro e w' ⟨rfl,⟨nd,rfl⟩⟩; (try first | exact ⟨rfl,_,World.drewN_drewN _ _ _⟩ | exact ⟨rfl,_,Eq.trans (World.drewN_drewN _ _ _) (congrArg (World.drewN _) (Nat.add_assoc _ _ _))⟩)))
             repeat (go_quiet (first | (go_at_call 56; (with_reducible refine (ZC.calls k1 _ _ l0 a2 t280 _ ?side1 ?side2 A11.out).mono ?_); (case side1 => repeat (first | exact HR0.out | (with_reducible refine Kd.ZA ?_ _) | (with_reducible refine Kd.Z9 ?_ _) | (with_reducible refine Kd.ZI ?_))); (case side2 => exact HC0.out); rintro e w' ⟨rfl,⟨nd,rfl⟩⟩; (try first | exact ⟨rfl,_,World.drewN_drewN _ _ _⟩ | exact ⟨rfl,_,Eq.trans (World.drewN_drewN _ _ _) (congrArg (World.drewN _) (Nat.add_assoc _ _ _))⟩); have p281 : 0 ≤ (t280 : Int) := of_decide_eq_true (by first | (with_reducible assumption) | assumption); have q281 : t280 < (l0.length : Int) := of_decide_eq_true (by first | (with_reducible assumption) | assumption); obtain ⟨ad281,e281,hx281_0,hx281_1,hx281_2⟩ := Xm HR0.out t280 p281 q281; obtain rfl : ad276 = ad281 := (by injection e281); replace p281 := eq_true p281; replace q281 := eq_true q281) | (go_at_call 70; (with_reducible refine (ZT.calls _ _ l0 t280 (wrap64 (a2 - ((Zf l0 t280).f0))) t282 _ ?side1 ?side2 A14.out).mono ?_); (case side1 => repeat (first | exact HR0.out | (with_reducible refine Kd.ZA ?_ _) | (with_reducible refine Kd.Z9 ?_ _) | (with_reducible refine Kd.ZI ?_))); (case side2 => exact HC0.out); rintro e w' ⟨rfl,⟨nd,rfl⟩⟩; (try first | exact ⟨rfl,_,World.drewN_drewN _ _ _⟩ | exact ⟨rfl,_,Eq.trans (World.drewN_drewN _ _ _) (congrArg (World.drewN _) (Nat.add_assoc _ _ _))⟩))); try go_wp2_with (first | (go_at_call 56; (with_reducible refine (ZC.calls k1 _ _ l0 a2 t280 _ ?side1 ?side2 A11.out).mono ?_); (case side1 => repeat (first | exact HR0.out | (with_reducible refine Kd.ZA ?_ _) | (with_reducible refine Kd.Z9 ?_ _) | (with_reducible refine Kd.ZI ?_))); (case side2 => exact HC0.out); rintro e w' ⟨rfl,⟨nd,rfl⟩⟩; (try first | exact ⟨rfl,_,World.drewN_drewN _ _ _⟩ | exact ⟨rfl,_,Eq.trans (World.drewN_drewN _ _ _) (congrArg (World.drewN _) (Nat.add_assoc _ _ _))⟩); have p281 : 0 ≤ (t280 : Int) := of_decide_eq_true (by first | (with_reducible assumption) | assumption); have q281 : t280 < (l0.length : Int) := of_decide_eq_true (by first | (with_reducible assumption) | assumption); obtain ⟨ad281,e281,hx281_0,hx281_1,hx281_2⟩ := Xm HR0.out t280 p281 q281; obtain rfl : ad276 = ad281 := (by injection e281); replace p281 := eq_true p281; replace q281 := eq_true q281) | (go_at_call 70; (with_reducible refine (ZT.calls _ _ l0 t280 (wrap64 (a2 - ((Zf l0 t280).f0))) t282 _ ?side1 ?side2 A14.out).mono ?_); (case side1 => repeat (first | exact HR0.out | (with_reducible refine Kd.ZA ?_ _) | (with_reducible refine Kd.Z9 ?_ _) | (with_reducible refine Kd.ZI ?_))); (case side2 => exact HC0.out); rintro e w' ⟨rfl,⟨nd,rfl⟩⟩; (try first | exact ⟨rfl,_,World.drewN_drewN _ _ _⟩ | exact ⟨rfl,_,Eq.trans (World.drewN_drewN _ _ _) (congrArg (World.drewN _) (Nat.add_assoc _ _ _))⟩))))
             go_ret; exact ⟨by first | rfl | (simp; done) | (simp only [← hji5] <;> (first | rfl | simp)) | (simp [*]; done),by repeat (first | exact Drawn0.refl _ | apply Drawn0.step)⟩
           · rw [if_neg c13] at H
             exact absurd H (by simp)
         · rw [if_neg c12] at H
           exact absurd H (by simp)
     · rw [if_neg c6] at H
       exact absurd H (by simp)
   · rw [if_neg c4] at H
     have c4b0 : decide ((wrap64 (x7_1 + 1)) < (l0.length : Int)) = false := decide_eq_false c4; clear c4; replace H := Option.bind_eq_some_iff.mp H; obtain ⟨t283,A150,H⟩ := H; replace H : (if 0 ≤ t283 then (if t283 < (l0.length : Int) then ((ZT.f l0 t283 (wrap64 (a2 - ((Zf l0 t283).f0)))).bind fun t285 => (some (wrap64 (x1_1 + t285)))) else (none)) else (none)) = some r := H; have A15 := Zc.mk A150; clear A150
     by_cases c16 : 0 ≤ t283
     · rw [if_pos c16] at H
       have c16b0 : decide (0 ≤ t283) = true := decide_eq_true c16; clear c16
       by_cases c17 : t283 < (l0.length : Int)
       · rw [if_pos c17] at H
         have c17b0 : decide (t283 < (l0.length : Int)) = true := decide_eq_true c17; clear c17; replace H := Option.bind_eq_some_iff.mp H; obtain ⟨t285,A180,H⟩ := H; replace H : (some (wrap64 (x1_1 + t285))) = some r := H; have A18 := Zc.mk A180; clear A180; obtain rfl := Option.some.inj H
         go_wp2_with (first | (go_at_call 56; (with_reducible refine (ZC.calls k1 _ _ l0 a2 t283 _ ?side1 ?side2 A15.out).mono ?_); (case side1 => repeat (first | exact HR0.out | (with_reducible refine Kd.ZA ?_ _) | (with_reducible refine Kd.Z9 ?_ _) | (with_reducible refine Kd.ZI ?_))); (case side2 => exact HC0.out); rintro e w' ⟨rfl,⟨nd,rfl⟩⟩; (try first | exact ⟨rfl,_,World.drewN_drewN _ _ _⟩ | exact ⟨rfl,_,Eq.trans (World.drewN_drewN _ _ _) (congrArg (World.drewN _) (Nat.add_assoc _ _ _))⟩); have p284 : 0 ≤ (t283 : Int) := of_decide_eq_true (by first | (with_reducible assumption) | assumption); have q284 : t283 < (l0.length : Int) := of_decide_eq_true (by first | (with_reducible assumption) | assumption); obtain ⟨ad284,e284,hx284_0,hx284_1,hx284_2⟩ := Xm HR0.out t283 p284 q284; cases e284; replace p284 := eq_true p284; replace q284 := eq_true q284) | (go_at_call 70; (with_reducible refine (ZT.calls _ _ l0 t283 (wrap64 (a2 - ((Zf l0 t283).f0))) t285 _ ?side1 ?side2 A18.out).mono ?_); (case side1 => repeat (first | exact HR0.out | (with_reducible refine Kd.ZA ?_ _) | (with_reducible refine Kd.Z9 ?_ _) | (with_reducible refine Kd.ZI ?_))); (case side2 => exact HC0.out); rintro e w' ⟨rfl,⟨nd,rfl⟩⟩; (try first | exact ⟨rfl,_,World.drewN_drewN _ _ _⟩ | exact ⟨rfl,_,Eq.trans (World.drewN_drewN _ _ _) (congrArg (World.drewN _) (Nat.add_assoc _ _ _))⟩)))
         repeat (go_quiet (first | (go_at_call 56; (with_reducible refine (ZC.calls k1 _ _ l0 a2 t283 _ ?side1 ?side2 A15.out).mono ?_); (case side1 => repeat (first | exact HR0.out | (with_reducible refine Kd.ZA ?_ _) | (with_reducible refine Kd.Z9 ?_ _) | (with_reducible refine Kd.ZI ?_))); (case side2 => exact HC0.out); rintro e w' ⟨rfl,⟨nd,rfl⟩⟩; (try first | exact ⟨rfl,_,World.drewN_drewN _ _ _⟩ | exact ⟨rfl,_,Eq.trans (World.drewN_drewN _ _ _) (congrArg (World.drewN _) (Nat.add_assoc _ _ _))⟩); have p284 : 0 ≤ (t283 : Int) := of_decide_eq_true (by first | (with_reducible assumption) | assumption); have q284 : t283 < (l0.length : Int) := of_decide_eq_true (by first | (with_reducible assumption) | assumption); obtain ⟨ad284,e284,hx284_0,hx284_1,hx284_2⟩ := Xm HR0.out t283 p284 q284; cases e284; replace p284 := eq_true p284; replace q284 := eq_true q284) | (go_at_call 70; (with_reducible refine (ZT.calls _ _ l0 t283 (wrap64 (a2 - ((Zf l0 t283).f0))) t285 _ ?side1 ?side2 A18.out).mono ?_); (case side1 => repeat (first | exact HR0.out | (with_reducible refine Kd.ZA ?_ _) | (with_reducible refine Kd.Z9 ?_ _) | (with_reducible refine Kd.ZI ?_))); (case side2 => exact HC0.out); rintro e w' ⟨rfl,⟨nd,rfl⟩⟩; (try first | exact ⟨rfl,_,World.drewN_drewN _ _ _⟩ | exact ⟨rfl,_,Eq.trans (World.drewN_drewN _ _ _) (congrArg (World.drewN _) (Nat.add_assoc _ _ _))⟩))); try go_wp2_with (first | (go_at_call 56; (with_reducible refine (ZC.calls k1 _ _ l0 a2 t283 _ ?side1 ?side2 A15.out).mono ?_); (case side1 => repeat (first | exact HR0.out | (with_reducible refine Kd.ZA ?_ _) | (with_reducible refine Kd.Z9 ?_ _) | (with_reducible refine Kd.ZI ?_))); (case side2 => exact HC0.out); rintro e w' ⟨rfl,⟨nd,rfl⟩⟩; (try first | exact ⟨rfl,_,World.drewN_drewN _ _ _⟩ | exact ⟨rfl,_,Eq.trans (World.drewN_drewN _ _ _) (congrArg (World.drewN _) (Nat.add_assoc _ _ _))⟩); have p284 : 0 ≤ (t283 : Int) := of_decide_eq_true (by first | (with_reducible assumption) | assumption); have q284 : t283 < (l0.length : Int) := of_decide_eq_true (by first | (with_reducible assumption) | assumption); obtain ⟨ad284,e284,hx284_0,hx284_1,hx284_2⟩ := Xm HR0.out t283 p284 q284; cases e284; replace p284 := eq_true p284; replace q284 := eq_true q284) | (go_at_call 70; (with_reducible refine (ZT.calls _ _ l0 t283 (wrap64 (a2 - ((Zf l0 t283).f0))) t285 _ ?side1 ?side2 A18.out).mono ?_); (case side1 => repeat (first | exact HR0.out | (with_reducible refine Kd.ZA ?_ _) | (with_reducible refine Kd.Z9 ?_ _) | (with_reducible refine Kd.ZI ?_))); (case side2 => exact HC0.out); rintro e w' ⟨rfl,⟨nd,rfl⟩⟩; (try first | exact ⟨rfl,_,World.drewN_drewN _ _ _⟩ | exact ⟨rfl,_,Eq.trans (World.drewN_drewN _ _ _) (congrArg (World.drewN _) (Nat.add_assoc _ _ _))⟩))))
         go_ret; exact ⟨by first | rfl | (simp; done) | (simp [*]; done),by repeat (first | exact Drawn0.refl _ | apply Drawn0.step)⟩
       · rw [if_neg c17] at H
         exact absurd H (by simp)
     · rw [if_neg c16] at H
       exact absurd H (by simp)
end Go.Proofs.Ytomlfbmfdoallaa.PA

namespace Go.Proofs.Ytomlfbmfdoallaa.PA
open Go.RowKit Go.Proofs.YtomlfbmfdoallaaW.PrintWords Go.Proofs.YtomlfbmfdoallaaW.PrintLast Go.Proofs.YtomlfbmfdoallaaW.PrintMore
attribute [local go_sem] Xf Xg Xo Xn Xa ZZ Xh Xi
set_option linter.unusedVariables false
set_option linter.unusedSimpArgs false
def Z5.l0 : Nat → List (S27) → Int → Int → Int → Int → Option (Int)
 | 0,_,_,_,_,_ => none
 | k + 1,x0,x1,x2,x7,x8 => if x7 < x8 then ((Z7.f k x0 x1 (wrap64 (Int.tdiv (wrap64 ((wrap64 (x7 + x8)) + 1)) 2))).bind fun t295 => (if t295 ≤ x2 then (Z5.l0 k x0 x1 x2 (wrap64 (Int.tdiv (wrap64 ((wrap64 (x7 + x8)) + 1)) 2)) x8) else (Z5.l0 k x0 x1 x2 x7 (wrap64 ((wrap64 (Int.tdiv (wrap64 ((wrap64 (x7 + x8)) + 1)) 2)) - 1))))) else (some x7)
def Z5.f (k : Nat) (l0 : List (S27)) (a1 : Int) (a2 : Int) : Option (Int) := Z5.l0 k l0 a1 a2 0 1000000000
theorem Z5.Xq : ∀ k,(∀ y0 y1 y2 y3 y4,LeO (Z5.l0 k y0 y1 y2 y3 y4) (Z5.l0 (k + 1) y0 y1 y2 y3 y4))
 | 0 => fun _ _ _ _ _ r h => by simp [Z5.l0] at h
 | k + 1 => by
  have ih0 := Z5.Xq k
  · intro y0 y1 y2 y3 y4
    unfold Z5.l0
    repeat' first
    | (with_reducible exact ih0 _ _ _ _ _)
    | (with_reducible exact Z7.mono _ _ _ _)
    | (with_reducible exact LeO.refl _)
    | (with_reducible exact LeO.none _)
    | (with_reducible refine LeO.ite ?_ ?_)
    | (with_reducible refine LeO.bind ?_ (fun _ => ?_))
    | exact ih0 _ _ _ _ _
    | exact Z7.mono _ _ _ _
    | exact LeO.none _
    | refine LeO.ite ?_ ?_
    | refine LeO.bind ?_ (fun _ => ?_)
theorem Z5.mono : ∀ a0 a1 a2 k,LeO (Z5.f k a0 a1 a2) (Z5.f (k + 1) a0 a1 a2) := by
 intro a0 a1 a2 k; have ih0 := Z5.Xq k; unfold Z5.f
 repeat' first
  | (with_reducible exact ih0 _ _ _ _ _)
  | (with_reducible exact Z7.mono _ _ _ _)
  | (with_reducible exact LeO.refl _)
  | (with_reducible exact LeO.none _)
  | (with_reducible refine LeO.ite ?_ ?_)
  | (with_reducible refine LeO.bind ?_ (fun _ => ?_))
  | exact ih0 _ _ _ _ _
  | exact Z7.mono _ _ _ _
  | exact LeO.none _
  | refine LeO.ite ?_ ?_
  | refine LeO.bind ?_ (fun _ => ?_)
set_option maxHeartbeats 8000000 in
set_option maxRecDepth 100000 in
theorem Z5.calls (k : Nat) (A0 : Option Addr) (c0 : Nat) (l0 : List (S27)) (a1 : Int) (a2 : Int) (r : Int) (w : World) (hr0 : Kd.C k27 w A0 l0.length l0) (hc0 : l0.length ≤ c0) (h : Z5.f k l0 a1 a2 = some r) :
 Calls Try.prog 55 #[.slice A0 l0.length c0,.int .i64 a1,.int .i64 a2] w fun e w' => e = .returned (.int .i64 r) ∧ Drawn0 w w' := by
 have HR0 := Zc.mk hr0; have HC0 := Zc.mk hc0; clear hr0 hc0; have H : (Z5.l0 k l0 a1 a2 0 1000000000) = some r := h; clear h; have H' := Zc.mk H; clear H
 go_enter Try.func55,Try.ntmps55
 go_wp2
 go_loopg [7,8] k (fun kq v7 v8 w' => ∃ (x7_1 : Int) (x8_1 : Int),v7 = .int .i64 x7_1 ∧ v8 = .int .i64 x8_1 ∧ Zc (Z5.l0 kq l0 a1 a2 x7_1 x8_1 = some r) ∧ Zc (kq ≤ k) ∧ Drawn0 w w')
 case atStart => exact ⟨(0),(1000000000),(by first | rfl | (simp; done) | (simp [*]; done)),(by first | rfl | (simp; done) | (simp [*]; done)),H',⟨Nat.le_refl _⟩,by repeat (first | exact Drawn0.refl _ | apply Drawn0.step)⟩
 case round =>
  clear H'
  (try clear p2)
  obtain ⟨x7_1,x8_1,rfl,rfl,HA,HK1,⟨m1,rfl⟩⟩ := hrel
  cases gk with
  | zero => exact absurd HA.out (by simp [Z5.l0])
  | succ k1 =>
   have H := HA.out; clear HA; simp only [Z5.l0] at H
   by_cases c4 : x7_1 < x8_1
   · rw [if_pos c4] at H
     have c4b0 : decide (x7_1 < x8_1) = true := decide_eq_true c4; clear c4; replace H := Option.bind_eq_some_iff.mp H; obtain ⟨t295,A50,H⟩ := H; replace H : (if t295 ≤ a2 then (Z5.l0 k1 l0 a1 a2 (wrap64 (Int.tdiv (wrap64 ((wrap64 (x7_1 + x8_1)) + 1)) 2)) x8_1) else (Z5.l0 k1 l0 a1 a2 x7_1 (wrap64 ((wrap64 (Int.tdiv (wrap64 ((wrap64 (x7_1 + x8_1)) + 1)) 2)) - 1)))) = some r := H; have A5 := Zc.mk A50; clear A50
     by_cases c6 : t295 ≤ a2
     · rw [if_pos c6] at H
       have c6b0 : decide (t295 ≤ a2) = true := decide_eq_true c6; clear c6; have H' := Zc.mk H; clear H
       go_wp2_with (first | ((with_reducible refine Z1 (f := 53) rfl ?_); refine ZQ (some 21) rfl rfl Try.func53 (by kernel_rfl) rfl #[.slice A0 l0.length c0,.int .i64 a1,.int .i64 (wrap64 (Int.tdiv (wrap64 ((wrap64 (x7_1 + x8_1)) + 1)) 2))] rfl (by (try simp only [List.map_toArray,List.map_cons,List.map_nil]); first | done | rfl | (simp only [List.length_drop,List.length_take]; rfl)) ?_; (with_reducible refine (Z7.calls k1 _ _ l0 a1 (wrap64 (Int.tdiv (wrap64 ((wrap64 (x7_1 + x8_1)) + 1)) 2)) t295 _ ?side1 ?side2 A5.out).mono ?_); (case side1 => repeat (first | exact HR0.out | (with_reducible refine Kd.ZA ?_ _) | (with_reducible refine Kd.Z9 ?_ _) | (with_reducible refine Kd.ZI ?_))); (case side2 => exact HC0.out); rintro e w' ⟨rfl,⟨nd,rfl⟩⟩; refine ⟨_,rfl,?_⟩))
       go_roundg k1
       case measure => have := HK1.out; omega
       case rel => exact ⟨(wrap64 (Int.tdiv (wrap64 ((wrap64 (x7_1 + x8_1)) + 1)) 2)),(x8_1),(by first | rfl | (simp; done) | (simp [*]; done)),(by first | rfl | (simp; done) | (simp [*]; done)),H',⟨by have := HK1.out; omega⟩,by repeat (first | exact Drawn0.refl _ | apply Drawn0.step)⟩
     · rw [if_neg c6] at H
       have c6b0 : decide (t295 ≤ a2) = false := decide_eq_false c6; clear c6; have H' := Zc.mk H; clear H
       go_wp2_with (first | ((with_reducible refine Z1 (f := 53) rfl ?_); refine ZQ (some 21) rfl rfl Try.func53 (by kernel_rfl) rfl #[.slice A0 l0.length c0,.int .i64 a1,.int .i64 (wrap64 (Int.tdiv (wrap64 ((wrap64 (x7_1 + x8_1)) + 1)) 2))] rfl (by (try simp only [List.map_toArray,List.map_cons,List.map_nil]); first | done | rfl | (simp only [List.length_drop,List.length_take]; rfl)) ?_; (with_reducible refine (Z7.calls k1 _ _ l0 a1 (wrap64 (Int.tdiv (wrap64 ((wrap64 (x7_1 + x8_1)) + 1)) 2)) t295 _ ?side1 ?side2 A5.out).mono ?_); (case side1 => repeat (first | exact HR0.out | (with_reducible refine Kd.ZA ?_ _) | (with_reducible refine Kd.Z9 ?_ _) | (with_reducible refine Kd.ZI ?_))); (case side2 => exact HC0.out); rintro e w' ⟨rfl,⟨nd,rfl⟩⟩; refine ⟨_,rfl,?_⟩))
       go_roundg k1
       case measure => have := HK1.out; omega
       case rel => exact ⟨(x7_1),(wrap64 ((wrap64 (Int.tdiv (wrap64 ((wrap64 (x7_1 + x8_1)) + 1)) 2)) - 1)),(by first | rfl | (simp; done) | (simp [*]; done)),(by first | rfl | (simp; done) | (simp [*]; done)),H',⟨by have := HK1.out; omega⟩,by repeat (first | exact Drawn0.refl _ | apply Drawn0.step)⟩
   · rw [if_neg c4] at H
     have c4b0 : decide (x7_1 < x8_1) = false := decide_eq_false c4; clear c4; obtain rfl := Option.some.inj H
     go_wp2
     go_ret; exact ⟨by first | rfl | (simp; done) | (simp [*]; done),by repeat (first | exact Drawn0.refl _ | apply Drawn0.step)⟩
end Go.Proofs.Ytomlfbmfdoallaa.PA

namespace Go.Proofs.Ytomlfbmfdoallaa.PA
open Go.RowKit Go.Proofs.YtomlfbmfdoallaaW.PrintWords Go.Proofs.YtomlfbmfdoallaaW.PrintLast Go.Proofs.YtomlfbmfdoallaaW.PrintMore
attribute [local go_sem] Xf Xg Xo Xn Xa ZZ Xh Xi
set_option linter.unusedVariables false
set_option linter.unusedSimpArgs false
mutual
def Zi.j0 : Nat → List (S27) → Int → Int → Int → Bool → Option (List Int × List Int × Int)
 | 0,_,_,_,_,_ => none
 | k + 1,x0,x1,x2,x3,x37 => if x37 = true then (some (([] : List Int),([] : List Int),7)) else (if x2 > x1 then ((Z5.f k x0 x1 (wrap64 (x2 - 1))).bind fun t346 => (Zi.j1 k x0 x1 x2 x3 (wrap64 (t346 + 1)))) else (Zi.j1 k x0 x1 x2 x3 0))
def Zi.j1 : Nat → List (S27) → Int → Int → Int → Int → Option (List Int × List Int × Int)
 | 0,_,_,_,_,_ => none
 | k + 1,x0,x1,x2,x3,x11 => Zi.l0 k x0 x1 x2 x3 x11 ([] : List Int) ([] : List Int)
def Zi.l0 : Nat → List (S27) → Int → Int → Int → Int → List Int → List Int → Option (List Int × List Int × Int)
 | 0,_,_,_,_,_,_,_ => none
 | k + 1,x0,x1,x2,x3,x11,x12,x13 => if x11 ≤ 1000000000 then ((Z7.f k x0 x1 x11).bind fun t347 => (if t347 ≥ (wrap64 (x2 + x3)) then (Zi.j3 k x0 x1 x2 x3 x11 x12 x13 t347 true) else (Zi.j3 k x0 x1 x2 x3 x11 x12 x13 t347 (decide (t347 > 1000000000))))) else (some (x12,x13,0))
def Zi.j3 : Nat → List (S27) → Int → Int → Int → Int → List Int → List Int → Int → Bool → Option (List Int × List Int × Int)
 | 0,_,_,_,_,_,_,_,_,_ => none
 | k + 1,x0,x1,x2,x3,x11,x12,x13,x14,x63 => if x63 = true then (some (x12,x13,0)) else (if (x12.length : Int) = 4096 then (some (([] : List Int),([] : List Int),4)) else (if x12.length < 17592186044416 then (if x13.length < 17592186044416 then (Zi.l0 k x0 x1 x2 x3 (wrap64 (x11 + 1)) (x12 ++ [x11]) (x13 ++ [wrap64 (x14 - x2)])) else (none)) else (none)))
end
def Zi.f (k : Nat) (l0 : List (S27)) (a1 : Int) (a2 : Int) (a3 : Int) : Option (List Int × List Int × Int) := (Zh.f k l0).bind fun t344 => (if t344 = true then ((Z8.f a1).bind fun t345 => (if t345 = true then (if a2 < a1 then (Zi.j0 k l0 a1 a2 a3 true) else (if a2 > 1000000000 then (Zi.j0 k l0 a1 a2 a3 true) else (if a3 < 0 then (Zi.j0 k l0 a1 a2 a3 true) else (Zi.j0 k l0 a1 a2 a3 (decide (a3 > 4096)))))) else (Zi.j0 k l0 a1 a2 a3 true))) else (some (([] : List Int),([] : List Int),1)))
theorem Zi.Xq : ∀ k,(∀ y0 y1 y2 y3 y4,LeO (Zi.j0 k y0 y1 y2 y3 y4) (Zi.j0 (k + 1) y0 y1 y2 y3 y4)) ∧ (∀ y0 y1 y2 y3 y4,LeO (Zi.j1 k y0 y1 y2 y3 y4) (Zi.j1 (k + 1) y0 y1 y2 y3 y4)) ∧ (∀ y0 y1 y2 y3 y4 y5 y6,LeO (Zi.l0 k y0 y1 y2 y3 y4 y5 y6) (Zi.l0 (k + 1) y0 y1 y2 y3 y4 y5 y6)) ∧ (∀ y0 y1 y2 y3 y4 y5 y6 y7 y8,LeO (Zi.j3 k y0 y1 y2 y3 y4 y5 y6 y7 y8) (Zi.j3 (k + 1) y0 y1 y2 y3 y4 y5 y6 y7 y8))
 | 0 => ⟨fun _ _ _ _ _ r h => by simp [Zi.j0] at h,fun _ _ _ _ _ r h => by simp [Zi.j1] at h,fun _ _ _ _ _ _ _ r h => by simp [Zi.l0] at h,fun _ _ _ _ _ _ _ _ _ r h => by simp [Zi.j3] at h⟩
 | k + 1 => by
  obtain ⟨ih0,ih1,ih2,ih3⟩ := Zi.Xq k; refine ⟨?_,?_,?_,?_⟩
  · intro y0 y1 y2 y3 y4
    unfold Zi.j0
    repeat' first
    | (with_reducible exact ih0 _ _ _ _ _)
    | (with_reducible exact ih1 _ _ _ _ _)
    | (with_reducible exact ih2 _ _ _ _ _ _ _)
    | (with_reducible exact ih3 _ _ _ _ _ _ _ _ _)
    | (with_reducible exact Zh.mono _ _)
    | (with_reducible exact Z7.mono _ _ _ _)
    | (with_reducible exact Z5.mono _ _ _ _)
    | (with_reducible exact LeO.refl _)
    | (with_reducible exact LeO.none _)
    | (with_reducible refine LeO.ite ?_ ?_)
    | (with_reducible refine LeO.bind ?_ (fun _ => ?_))
    | exact ih0 _ _ _ _ _
    | exact ih1 _ _ _ _ _
    | exact ih2 _ _ _ _ _ _ _
    | exact ih3 _ _ _ _ _ _ _ _ _
    | exact Zh.mono _ _
    | exact Z7.mono _ _ _ _
    | exact Z5.mono _ _ _ _
    | exact LeO.none _
    | refine LeO.ite ?_ ?_
    | refine LeO.bind ?_ (fun _ => ?_)
  · intro y0 y1 y2 y3 y4
    unfold Zi.j1
    repeat' first
    | (with_reducible exact ih0 _ _ _ _ _)
    | (with_reducible exact ih1 _ _ _ _ _)
    | (with_reducible exact ih2 _ _ _ _ _ _ _)
    | (with_reducible exact ih3 _ _ _ _ _ _ _ _ _)
    | (with_reducible exact Zh.mono _ _)
    | (with_reducible exact Z7.mono _ _ _ _)
    | (with_reducible exact Z5.mono _ _ _ _)
    | (with_reducible exact LeO.refl _)
    | (with_reducible exact LeO.none _)
    | (with_reducible refine LeO.ite ?_ ?_)
    | (with_reducible refine LeO.bind ?_ (fun _ => ?_))
    | exact ih0 _ _ _ _ _
    | exact ih1 _ _ _ _ _
    | exact ih2 _ _ _ _ _ _ _
    | exact ih3 _ _ _ _ _ _ _ _ _
    | exact Zh.mono _ _
    | exact Z7.mono _ _ _ _
    | exact Z5.mono _ _ _ _
    | exact LeO.none _
    | refine LeO.ite ?_ ?_
    | refine LeO.bind ?_ (fun _ => ?_)
  · intro y0 y1 y2 y3 y4 y5 y6
    unfold Zi.l0
    repeat' first
    | (with_reducible exact ih0 _ _ _ _ _)
    | (with_reducible exact ih1 _ _ _ _ _)
    | (with_reducible exact ih2 _ _ _ _ _ _ _)
    | (with_reducible exact ih3 _ _ _ _ _ _ _ _ _)
    | (with_reducible exact Zh.mono _ _)
    | (with_reducible exact Z7.mono _ _ _ _)
    | (with_reducible exact Z5.mono _ _ _ _)
    | (with_reducible exact LeO.refl _)
    | (with_reducible exact LeO.none _)
    | (with_reducible refine LeO.ite ?_ ?_)
    | (with_reducible refine LeO.bind ?_ (fun _ => ?_))
    | exact ih0 _ _ _ _ _
    | exact ih1 _ _ _ _ _
    | exact ih2 _ _ _ _ _ _ _
    | exact ih3 _ _ _ _ _ _ _ _ _
    | exact Zh.mono _ _
    | exact Z7.mono _ _ _ _
    | exact Z5.mono _ _ _ _
    | exact LeO.none _
    | refine LeO.ite ?_ ?_
    | refine LeO.bind ?_ (fun _ => ?_)
  · intro y0 y1 y2 y3 y4 y5 y6 y7 y8
    unfold Zi.j3
    repeat' first
    | (with_reducible exact ih0 _ _ _ _ _)
    | (with_reducible exact ih1 _ _ _ _ _)
    | (with_reducible exact ih2 _ _ _ _ _ _ _)
    | (with_reducible exact ih3 _ _ _ _ _ _ _ _ _)
    | (with_reducible exact Zh.mono _ _)
    | (with_reducible exact Z7.mono _ _ _ _)
    | (with_reducible exact Z5.mono _ _ _ _)
    | (with_reducible exact LeO.refl _)
    | (with_reducible exact LeO.none _)
    | (with_reducible refine LeO.ite ?_ ?_)
    | (with_reducible refine LeO.bind ?_ (fun _ => ?_))
    | exact ih0 _ _ _ _ _
    | exact ih1 _ _ _ _ _
    | exact ih2 _ _ _ _ _ _ _
    | exact ih3 _ _ _ _ _ _ _ _ _
    | exact Zh.mono _ _
    | exact Z7.mono _ _ _ _
    | exact Z5.mono _ _ _ _
    | exact LeO.none _
    | refine LeO.ite ?_ ?_
    | refine LeO.bind ?_ (fun _ => ?_)
theorem Zi.mono : ∀ a0 a1 a2 a3 k,LeO (Zi.f k a0 a1 a2 a3) (Zi.f (k + 1) a0 a1 a2 a3) := by
 intro a0 a1 a2 a3 k; obtain ⟨ih0,ih1,ih2,ih3⟩ := Zi.Xq k; unfold Zi.f
 repeat' first
  | (with_reducible exact ih0 _ _ _ _ _)
  | (with_reducible exact ih1 _ _ _ _ _)
  | (with_reducible exact ih2 _ _ _ _ _ _ _)
  | (with_reducible exact ih3 _ _ _ _ _ _ _ _ _)
  | (with_reducible exact Zh.mono _ _)
  | (with_reducible exact Z7.mono _ _ _ _)
  | (with_reducible exact Z5.mono _ _ _ _)
  | (with_reducible exact LeO.refl _)
  | (with_reducible exact LeO.none _)
  | (with_reducible refine LeO.ite ?_ ?_)
  | (with_reducible refine LeO.bind ?_ (fun _ => ?_))
  | exact ih0 _ _ _ _ _
  | exact ih1 _ _ _ _ _
  | exact ih2 _ _ _ _ _ _ _
  | exact ih3 _ _ _ _ _ _ _ _ _
  | exact Zh.mono _ _
  | exact Z7.mono _ _ _ _
  | exact Z5.mono _ _ _ _
  | exact LeO.none _
  | refine LeO.ite ?_ ?_
  | refine LeO.bind ?_ (fun _ => ?_)
set_option maxHeartbeats 8000000 in
set_option maxRecDepth 100000 in
theorem Zi.calls (k : Nat) (A0 : Option Addr) (c0 : Nat) (l0 : List (S27)) (a1 : Int) (a2 : Int) (a3 : Int) (r1 : List Int) (r2 : List Int) (r3 : Int) (w : World) (hr0 : Kd.C k27 w A0 l0.length l0) (hc0 : l0.length ≤ c0) (h : Zi.f k l0 a1 a2 a3 = some (r1,r2,r3)) :
 Calls Try.prog 30 #[.slice A0 l0.length c0,.int .i64 a1,.int .i64 a2,.int .i64 a3] w fun e w' => ∃ v0_ v1_ : Value,e = .returned (.tuple #[v0_,v1_,.int .i64 r3]) ∧ Kd.R (Kd.int .i64) 3 w' w.heap.size (fun k_ => some k_ ≠ (v1_ : Value).ownBlock) v0_ r1 ∧ Kd.R (Kd.int .i64) 3 w' w.heap.size (fun k_ => some k_ ≠ (v0_ : Value).ownBlock) v1_ r2 ∧ Below w.heap.size w w' := by
 have HR0 := Zc.mk hr0; have HC0 := Zc.mk hc0; clear hr0 hc0; have HB := Zc.mk (Below.refl w.heap.size w); have H : ((Zh.f k l0).bind fun t344 => (if t344 = true then ((Z8.f a1).bind fun t345 => (if t345 = true then (if a2 < a1 then (Zi.j0 k l0 a1 a2 a3 true) else (if a2 > 1000000000 then (Zi.j0 k l0 a1 a2 a3 true) else (if a3 < 0 then (Zi.j0 k l0 a1 a2 a3 true) else (Zi.j0 k l0 a1 a2 a3 (decide (a3 > 4096)))))) else (Zi.j0 k l0 a1 a2 a3 true))) else (some (([] : List Int),([] : List Int),1)))) = some (r1,r2,r3) := h; clear h; replace H := Option.bind_eq_some_iff.mp H; obtain ⟨t344,A50,H⟩ := H; replace H : (if t344 = true then ((Z8.f a1).bind fun t345 => (if t345 = true then (if a2 < a1 then (Zi.j0 k l0 a1 a2 a3 true) else (if a2 > 1000000000 then (Zi.j0 k l0 a1 a2 a3 true) else (if a3 < 0 then (Zi.j0 k l0 a1 a2 a3 true) else (Zi.j0 k l0 a1 a2 a3 (decide (a3 > 4096)))))) else (Zi.j0 k l0 a1 a2 a3 true))) else (some (([] : List Int),([] : List Int),1))) = some (r1,r2,r3) := H; have A5 := Zc.mk A50; clear A50
 by_cases c6 : t344 = true
 · subst c6
   have H1 : ((Z8.f a1).bind fun t345 => (if t345 = true then (if a2 < a1 then (Zi.j0 k l0 a1 a2 a3 true) else (if a2 > 1000000000 then (Zi.j0 k l0 a1 a2 a3 true) else (if a3 < 0 then (Zi.j0 k l0 a1 a2 a3 true) else (Zi.j0 k l0 a1 a2 a3 (decide (a3 > 4096)))))) else (Zi.j0 k l0 a1 a2 a3 true))) = some (r1,r2,r3) := by rw [if_pos rfl] at H; exact H
   clear H; have H := H1; clear H1; have HC7 := Zc.mk H; clear H
   go_enter Try.func30,Try.ntmps30
   go_upto_region 3 with (first | ((with_reducible refine Z1 (f := 11) rfl ?_); refine ZQ (some 16) rfl rfl Try.func11 (by kernel_rfl) rfl #[.slice A0 l0.length c0] rfl (by (try simp only [List.map_toArray,List.map_cons,List.map_nil]); first | done | rfl | (simp only [List.length_drop,List.length_take]; rfl)) ?_; (with_reducible refine (Zh.calls k _ _ l0 true _ ?side1 ?side2 A5.out).mono ?_); (case side1 => repeat (first | exact HR0.out | (with_reducible refine Kd.ZA ?_ _) | (with_reducible refine Kd.Z9 ?_ _) | (with_reducible refine Kd.ZI ?_))); (case side2 => exact HC0.out); rintro e w8 ⟨rfl,hb⟩; refine ⟨_,rfl,?_⟩; have n0_ := Zc.mk (Z3 (by repeat (first | (with_reducible first | exact HB.out | apply Zd | apply Za | apply Zb) | exact HB.out)) hb); clear HB; have HB := n0_; clear n0_; (try clear hb); (try clear hb2); (try clear hk); (try clear hi)))
   (try simp only [Act.put,YD,YE,YF])
   go_cut [37] (fun v37 wc => ∃ (kq : Nat) (x37_6 : Bool),v37 = .bool x37_6 ∧ Zc (Zi.j0 kq l0 a1 a2 a3 x37_6 = some (r1,r2,r3)) ∧ Zc (kq ≤ k) ∧ Zc (Below w.heap.size w wc))
   case first =>
    have H := HC7.out; clear HC7; replace H := Option.bind_eq_some_iff.mp H; obtain ⟨t345,A90,H⟩ := H; replace H : (if t345 = true then (if a2 < a1 then (Zi.j0 k l0 a1 a2 a3 true) else (if a2 > 1000000000 then (Zi.j0 k l0 a1 a2 a3 true) else (if a3 < 0 then (Zi.j0 k l0 a1 a2 a3 true) else (Zi.j0 k l0 a1 a2 a3 (decide (a3 > 4096)))))) else (Zi.j0 k l0 a1 a2 a3 true)) = some (r1,r2,r3) := H; have A9 := Zc.mk A90; clear A90
    by_cases c10 : t345 = true
    · subst c10
      have H1 : (if a2 < a1 then (Zi.j0 k l0 a1 a2 a3 true) else (if a2 > 1000000000 then (Zi.j0 k l0 a1 a2 a3 true) else (if a3 < 0 then (Zi.j0 k l0 a1 a2 a3 true) else (Zi.j0 k l0 a1 a2 a3 (decide (a3 > 4096)))))) = some (r1,r2,r3) := by rw [if_pos rfl] at H; exact H
      clear H; have H := H1; clear H1
      by_cases c11 : a2 < a1
      · rw [if_pos c11] at H
        have c11b0 : decide (a2 < a1) = true := decide_eq_true c11; clear c11
        (first | rw [c11b0] | (simp only [i64_w,i32_w]; rw [c11b0]) | skip)
        have H' := Zc.mk H; clear H
        go_wp2_with (first | ((with_reducible refine Z1 (f := 50) rfl ?_); refine ZQ (some 19) rfl rfl Try.func50 (by kernel_rfl) rfl #[.int .i64 a1] rfl (by (try simp only [List.map_toArray,List.map_cons,List.map_nil]); first | done | rfl | (simp only [List.length_drop,List.length_take]; rfl)) ?_; (with_reducible refine (Z8.calls a1 true _ A9.out).mono ?_); rintro e w' ⟨rfl,⟨nd,rfl⟩⟩; refine ⟨_,rfl,?_⟩))
        go_meet
        case rel => exact ⟨_,(true),(by first | rfl | (simp; done) | (simp [*]; done)),H',⟨by first | omega | exact Nat.le_refl _⟩,⟨by repeat (first | (with_reducible first | exact HB.out | apply Zd | apply Za | apply Zb) | exact HB.out)⟩⟩
      · rw [if_neg c11] at H
        have c11b0 : decide (a2 < a1) = false := decide_eq_false c11; clear c11
        (first | rw [c11b0] | (simp only [i64_w,i32_w]; rw [c11b0]) | skip)
        by_cases c12 : a2 > 1000000000
        · rw [if_pos c12] at H
          have c12b0 : decide (1000000000 < a2) = true := decide_eq_true c12; clear c12; have H' := Zc.mk H; clear H
          go_wp2_with (first | ((with_reducible refine Z1 (f := 50) rfl ?_); refine ZQ (some 19) rfl rfl Try.func50 (by kernel_rfl) rfl #[.int .i64 a1] rfl (by (try simp only [List.map_toArray,List.map_cons,List.map_nil]); first | done | rfl | (simp only [List.length_drop,List.length_take]; rfl)) ?_; (with_reducible refine (Z8.calls a1 true _ A9.out).mono ?_); rintro e w' ⟨rfl,⟨nd,rfl⟩⟩; refine ⟨_,rfl,?_⟩))
          go_meet
          case rel => exact ⟨_,(true),(by first | rfl | (simp; done) | (simp [*]; done)),H',⟨by first | omega | exact Nat.le_refl _⟩,⟨by repeat (first | (with_reducible first | exact HB.out | apply Zd | apply Za | apply Zb) | exact HB.out)⟩⟩
        · rw [if_neg c12] at H
          have c12b0 : decide (1000000000 < a2) = false := decide_eq_false c12; clear c12
          by_cases c13 : a3 < 0
          · rw [if_pos c13] at H
            have c13b0 : decide (a3 < 0) = true := decide_eq_true c13; clear c13; have H' := Zc.mk H; clear H
            go_wp2_with (first | ((with_reducible refine Z1 (f := 50) rfl ?_); refine ZQ (some 19) rfl rfl Try.func50 (by kernel_rfl) rfl #[.int .i64 a1] rfl (by (try simp only [List.map_toArray,List.map_cons,List.map_nil]); first | done | rfl | (simp only [List.length_drop,List.length_take]; rfl)) ?_; (with_reducible refine (Z8.calls a1 true _ A9.out).mono ?_); rintro e w' ⟨rfl,⟨nd,rfl⟩⟩; refine ⟨_,rfl,?_⟩))
            go_meet
            case rel => exact ⟨_,(true),(by first | rfl | (simp; done) | (simp [*]; done)),H',⟨by first | omega | exact Nat.le_refl _⟩,⟨by repeat (first | (with_reducible first | exact HB.out | apply Zd | apply Za | apply Zb) | exact HB.out)⟩⟩
          · rw [if_neg c13] at H
            have c13b0 : decide (a3 < 0) = false := decide_eq_false c13; clear c13; have H' := Zc.mk H; clear H
            go_wp2_with (first | ((with_reducible refine Z1 (f := 50) rfl ?_); refine ZQ (some 19) rfl rfl Try.func50 (by kernel_rfl) rfl #[.int .i64 a1] rfl (by (try simp only [List.map_toArray,List.map_cons,List.map_nil]); first | done | rfl | (simp only [List.length_drop,List.length_take]; rfl)) ?_; (with_reducible refine (Z8.calls a1 true _ A9.out).mono ?_); rintro e w' ⟨rfl,⟨nd,rfl⟩⟩; refine ⟨_,rfl,?_⟩))
            go_meet
            case rel => exact ⟨_,(decide (a3 > 4096)),(by first | rfl | (simp; done) | (simp [*]; done)),H',⟨by first | omega | exact Nat.le_refl _⟩,⟨by repeat (first | (with_reducible first | exact HB.out | apply Zd | apply Za | apply Zb) | exact HB.out)⟩⟩
    · replace c10 := Bool.eq_false_iff.mpr c10
      subst c10
      have H1 : (Zi.j0 k l0 a1 a2 a3 true) = some (r1,r2,r3) := by rw [if_neg (show ¬ (false = true) by decide)] at H; exact H
      clear H; have H := H1; clear H1; have H' := Zc.mk H; clear H
      go_wp2_with (first | ((with_reducible refine Z1 (f := 50) rfl ?_); refine ZQ (some 19) rfl rfl Try.func50 (by kernel_rfl) rfl #[.int .i64 a1] rfl (by (try simp only [List.map_toArray,List.map_cons,List.map_nil]); first | done | rfl | (simp only [List.length_drop,List.length_take]; rfl)) ?_; (with_reducible refine (Z8.calls a1 false _ A9.out).mono ?_); rintro e w' ⟨rfl,⟨nd,rfl⟩⟩; refine ⟨_,rfl,?_⟩))
      go_meet
      case rel => exact ⟨_,(true),(by first | rfl | (simp; done) | (simp [*]; done)),H',⟨by first | omega | exact Nat.le_refl _⟩,⟨by repeat (first | (with_reducible first | exact HB.out | apply Zd | apply Za | apply Zb) | exact HB.out)⟩⟩
   case rest =>
    clear HC7
    (try clear c1); (try clear p2); (try clear c3); (try clear c5); (try clear c6); (try clear c10); (try clear c11); (try clear c11b0); (try clear c12); (try clear c12b0); (try clear c13); (try clear c13b0)
    obtain ⟨kq,x37_6,rfl,HA,HJ6,HB⟩ := hcut
    cases kq with
    | zero => exact absurd HA.out (by simp [Zi.j0])
    | succ kj6 =>
     have H := HA.out; clear HA; simp only [Zi.j0] at H
     by_cases c14 : x37_6 = true
     · subst c14
       have H1 : (some (([] : List Int),([] : List Int),7)) = some (r1,r2,r3) := by rw [if_pos rfl] at H; exact H
       clear H; have H := H1; clear H1; simp only [Option.some.injEq,Prod.mk.injEq] at H; obtain ⟨rfl,rfl,rfl⟩ := H
       go_wp2
       go_ret3
       exact ⟨_,_,by first | rfl | (simp [Zv,Zu] <;> rfl) | (simp [*,Zv,Zu] <;> rfl),by first | exact Kd.R_nil _ _ _ _ _ | exact Kd.N_nil _ _ _ _ _ | exact Kd.V_nil _ _ _ _ _ | exact Kd.Q_nil _ _ _ _ _ | exact Kd.S_nil _ _ _ _ _,by first | exact Kd.R_nil _ _ _ _ _ | exact Kd.N_nil _ _ _ _ _ | exact Kd.V_nil _ _ _ _ _ | exact Kd.Q_nil _ _ _ _ _ | exact Kd.S_nil _ _ _ _ _,by repeat (first | (with_reducible first | exact HB.out | apply Zd | apply Za | apply Zb) | exact HB.out)⟩
     · replace c14 := Bool.eq_false_iff.mpr c14
       subst c14
       have H1 : (if a2 > a1 then ((Z5.f kj6 l0 a1 (wrap64 (a2 - 1))).bind fun t346 => (Zi.j1 kj6 l0 a1 a2 a3 (wrap64 (t346 + 1)))) else (Zi.j1 kj6 l0 a1 a2 a3 0)) = some (r1,r2,r3) := by rw [if_neg (show ¬ (false = true) by decide)] at H; exact H
       clear H; have H := H1; clear H1; have HC15 := Zc.mk H; clear H
       go_upto_if 40 with (fail)
       go_cut [11] (fun v11 wc => ∃ (kq : Nat) (x11_14 : Int),v11 = .int .i64 x11_14 ∧ Zc (Zi.j1 kq l0 a1 a2 a3 x11_14 = some (r1,r2,r3)) ∧ Zc (kq ≤ kj6) ∧ Zc (Below w.heap.size w wc))
       case first =>
        have H := HC15.out; clear HC15
        by_cases c16 : a2 > a1
        · rw [if_pos c16] at H
          have c16b0 : decide (a1 < a2) = true := decide_eq_true c16; clear c16
          (first | rw [c16b0] | (simp only [i64_w,i32_w]; rw [c16b0]) | skip)
          replace H := Option.bind_eq_some_iff.mp H; obtain ⟨t346,A170,H⟩ := H; replace H : (Zi.j1 kj6 l0 a1 a2 a3 (wrap64 (t346 + 1))) = some (r1,r2,r3) := H; have A17 := Zc.mk A170; clear A170; have H' := Zc.mk H; clear H
          go_wp2_with (first | ((with_reducible refine Z1 (f := 55) rfl ?_); refine ZQ (some 45) rfl rfl Try.func55 (by kernel_rfl) rfl #[.slice A0 l0.length c0,.int .i64 a1,.int .i64 (wrap64 (a2 - 1))] rfl (by (try simp only [List.map_toArray,List.map_cons,List.map_nil]); first | done | rfl | (simp only [List.length_drop,List.length_take]; rfl)) ?_; (with_reducible refine (Z5.calls kj6 _ _ l0 a1 (wrap64 (a2 - 1)) t346 _ ?side1 ?side2 A17.out).mono ?_); (case side1 => repeat (first | exact (Kd.ZO HR0.out HB.out) | (with_reducible refine Kd.ZA ?_ _) | (with_reducible refine Kd.Z9 ?_ _) | (with_reducible refine Kd.ZI ?_))); (case side2 => exact HC0.out); rintro e w' ⟨rfl,⟨nd,rfl⟩⟩; refine ⟨_,rfl,?_⟩))
          go_meet
          case rel => exact ⟨_,(wrap64 (t346 + 1)),(by first | rfl | (simp; done) | (simp [*]; done)),H',⟨by have := HJ6.out; first | omega | exact Nat.le_refl _⟩,⟨by repeat (first | (with_reducible first | exact HB.out | apply Zd | apply Za | apply Zb) | exact HB.out)⟩⟩
        · rw [if_neg c16] at H
          have c16b0 : decide (a1 < a2) = false := decide_eq_false c16; clear c16
          (first | rw [c16b0] | (simp only [i64_w,i32_w]; rw [c16b0]) | skip)
          have H' := Zc.mk H; clear H
          go_wp2
          go_meet
          case rel => exact ⟨_,(0),(by first | rfl | (simp; done) | (simp [*]; done)),H',⟨by have := HJ6.out; first | omega | exact Nat.le_refl _⟩,⟨by repeat (first | (with_reducible first | exact HB.out | apply Zd | apply Za | apply Zb) | exact HB.out)⟩⟩
       case rest =>
        clear HC15
        (try clear c1); (try clear p2); (try clear c3); (try clear c5); (try clear c6); (try clear p6); (try clear c10); (try clear c11); (try clear c11b0); (try clear c12); (try clear c12b0); (try clear c13); (try clear c13b0); (try clear c14); (try clear c16); (try clear c16b0); (try clear p2)
        obtain ⟨kq,x11_14,rfl,HA,HJ14,HB⟩ := hcut
        cases kq with
        | zero => exact absurd HA.out (by simp [Zi.j1])
        | succ kj14 =>
         have H := HA.out; clear HA; simp only [Zi.j1] at H; have H' := Zc.mk H; clear H
         go_wp2
         go_loopg [11,12,13] kj14 (fun kq v11 v12 v13 w' => ∃ (x11_3 : Int) (x12_3 : List Int) (x13_3 : List Int),v11 = .int .i64 x11_3 ∧ Zc (Zi.l0 kq l0 a1 a2 a3 x11_3 x12_3 x13_3 = some (r1,r2,r3)) ∧ Zc (kq ≤ kj14) ∧ Zc (Kd.R (Kd.int .i64) 3 w' w.heap.size (fun k_ => some k_ ≠ (v13 : Value).ownBlock) v12 x12_3) ∧ Zc (Kd.R (Kd.int .i64) 3 w' w.heap.size (fun k_ => some k_ ≠ (v12 : Value).ownBlock) v13 x13_3) ∧ Zc (Below w.heap.size w w'))
         case atStart => exact ⟨(x11_14),(([] : List Int)),(([] : List Int)),(by first | rfl | (simp; done) | (simp [*]; done)),H',⟨Nat.le_refl _⟩,⟨by first | exact Kd.R_nil _ _ _ _ _ | exact Kd.N_nil _ _ _ _ _ | exact Kd.V_nil _ _ _ _ _ | exact Kd.Q_nil _ _ _ _ _ | exact Kd.S_nil _ _ _ _ _⟩,⟨by first | exact Kd.R_nil _ _ _ _ _ | exact Kd.N_nil _ _ _ _ _ | exact Kd.V_nil _ _ _ _ _ | exact Kd.Q_nil _ _ _ _ _ | exact Kd.S_nil _ _ _ _ _⟩,⟨by repeat (first | (with_reducible first | exact HB.out | apply Zd | apply Za | apply Zb) | exact HB.out)⟩⟩
         case round =>
          clear H'
          (try clear c1); (try clear p2); (try clear c3); (try clear c5); (try clear c6); (try clear p6); (try clear c10); (try clear c11); (try clear c11b0); (try clear c12); (try clear c12b0); (try clear c13); (try clear c13b0); (try clear c14); (try clear c16); (try clear c16b0); (try clear p2); (try clear p6)
          obtain ⟨x11_3,x12_3,x13_3,rfl,HA,HK3,HO_12,HO_13,HB⟩ := hrel
          cases gk with
          | zero => exact absurd HA.out (by simp [Zi.l0])
          | succ k3 =>
           have H := HA.out; clear HA; simp only [Zi.l0] at H
           by_cases c18 : x11_3 ≤ 1000000000
           · rw [if_pos c18] at H
             have c18b0 : decide (x11_3 ≤ 1000000000) = true := decide_eq_true c18; clear c18; replace H := Option.bind_eq_some_iff.mp H; obtain ⟨t347,A190,H⟩ := H; replace H : (if t347 ≥ (wrap64 (a2 + a3)) then (Zi.j3 k3 l0 a1 a2 a3 x11_3 x12_3 x13_3 t347 true) else (Zi.j3 k3 l0 a1 a2 a3 x11_3 x12_3 x13_3 t347 (decide (t347 > 1000000000)))) = some (r1,r2,r3) := H; have A19 := Zc.mk A190; clear A190; have HC20 := Zc.mk H; clear H
             go_upto_region 12 with (first | ((with_reducible refine Z1 (f := 53) rfl ?_); refine ZQ (some 54) rfl rfl Try.func53 (by kernel_rfl) rfl #[.slice A0 l0.length c0,.int .i64 a1,.int .i64 x11_3] rfl (by (try simp only [List.map_toArray,List.map_cons,List.map_nil]); first | done | rfl | (simp only [List.length_drop,List.length_take]; rfl)) ?_; (with_reducible refine (Z7.calls k3 _ _ l0 a1 x11_3 t347 _ ?side1 ?side2 A19.out).mono ?_); (case side1 => repeat (first | exact (Kd.ZO HR0.out HB.out) | (with_reducible refine Kd.ZA ?_ _) | (with_reducible refine Kd.Z9 ?_ _) | (with_reducible refine Kd.ZI ?_))); (case side2 => exact HC0.out); rintro e w' ⟨rfl,⟨nd,rfl⟩⟩; refine ⟨_,rfl,?_⟩))
             (try simp only [Act.put,YD,YE,YF])
             go_cut [63] (fun v63 wc => ∃ (kq : Nat) (x63_19 : Bool),v63 = .bool x63_19 ∧ Zc (Zi.j3 kq l0 a1 a2 a3 x11_3 x12_3 x13_3 t347 x63_19 = some (r1,r2,r3)) ∧ Zc (kq ≤ k3) ∧ Zc (Kd.R (Kd.int .i64) 3 wc w.heap.size (fun k_ => some k_ ≠ (u13 : Value).ownBlock) u12 x12_3) ∧ Zc (Kd.R (Kd.int .i64) 3 wc w.heap.size (fun k_ => some k_ ≠ (u12 : Value).ownBlock) u13 x13_3) ∧ Zc (Below w.heap.size w wc))
             case first =>
              have H := HC20.out; clear HC20
              by_cases c21 : t347 ≥ (wrap64 (a2 + a3))
              · rw [if_pos c21] at H
                have c21b0 : decide ((wrap64 (a2 + a3)) ≤ t347) = true := decide_eq_true c21; clear c21
                (first | rw [c21b0] | (simp only [i64_w,i32_w]; rw [c21b0]) | skip)
                have H' := Zc.mk H; clear H
                go_wp2
                go_meet
                case rel => exact ⟨_,(true),(by first | rfl | (simp; done) | (simp [*]; done)),H',⟨by have := HJ6.out; have := HJ14.out; have := HK3.out; first | omega | exact Nat.le_refl _⟩,⟨by (with_reducible repeat (first | apply Kd.Zl | apply Kd.Zk | apply Kd.Zs)); exact HO_12.out⟩,⟨by (with_reducible repeat (first | apply Kd.Zl | apply Kd.Zk | apply Kd.Zs)); exact HO_13.out⟩,⟨by repeat (first | (with_reducible first | exact HB.out | apply Zd | apply Za | apply Zb) | exact HB.out)⟩⟩
              · rw [if_neg c21] at H
                have c21b0 : decide ((wrap64 (a2 + a3)) ≤ t347) = false := decide_eq_false c21; clear c21
                (first | rw [c21b0] | (simp only [i64_w,i32_w]; rw [c21b0]) | skip)
                have H' := Zc.mk H; clear H
                go_wp2
                go_meet
                case rel => exact ⟨_,(decide (t347 > 1000000000)),(by first | rfl | (simp; done) | (simp [*]; done)),H',⟨by have := HJ6.out; have := HJ14.out; have := HK3.out; first | omega | exact Nat.le_refl _⟩,⟨by (with_reducible repeat (first | apply Kd.Zl | apply Kd.Zk | apply Kd.Zs)); exact HO_12.out⟩,⟨by (with_reducible repeat (first | apply Kd.Zl | apply Kd.Zk | apply Kd.Zs)); exact HO_13.out⟩,⟨by repeat (first | (with_reducible first | exact HB.out | apply Zd | apply Za | apply Zb) | exact HB.out)⟩⟩
             case rest =>
              clear HC20
              (try clear c1); (try clear c2); (try clear p2); (try clear c3); (try clear c5); (try clear c6); (try clear p6); (try clear c10); (try clear c11); (try clear c11b0); (try clear c12); (try clear c12b0); (try clear c13); (try clear c13b0); (try clear c14); (try clear c16); (try clear c16b0); (try clear c18); (try clear c18b0); (try clear c21); (try clear c21b0); (try clear p2); (try clear p6)
              obtain ⟨kq,x63_19,rfl,HA,HJ19,HO_12,HO_13,HB⟩ := hcut
              cases kq with
              | zero => exact absurd HA.out (by simp [Zi.j3])
              | succ kj19 =>
               have H := HA.out; clear HA; simp only [Zi.j3] at H
               by_cases c22 : x63_19 = true
               · subst c22
                 have H1 : (some (x12_3,x13_3,0)) = some (r1,r2,r3) := by rw [if_pos rfl] at H; exact H
                 clear H; have H := H1; clear H1; simp only [Option.some.injEq,Prod.mk.injEq] at H; obtain ⟨rfl,rfl,rfl⟩ := H
                 go_wp2
                 go_ret3
                 exact ⟨_,_,by first | rfl | (simp [Zv,Zu] <;> rfl) | (simp [*,Zv,Zu] <;> rfl),by (with_reducible repeat (first | apply Kd.Zl | apply Kd.Zk | apply Kd.Zs)); exact HO_12.out,by (with_reducible repeat (first | apply Kd.Zl | apply Kd.Zk | apply Kd.Zs)); exact HO_13.out,by repeat (first | (with_reducible first | exact HB.out | apply Zd | apply Za | apply Zb) | exact HB.out)⟩
               · replace c22 := Bool.eq_false_iff.mpr c22
                 subst c22
                 have H1 : (if (x12_3.length : Int) = 4096 then (some (([] : List Int),([] : List Int),4)) else (if x12_3.length < 17592186044416 then (if x13_3.length < 17592186044416 then (Zi.l0 kj19 l0 a1 a2 a3 (wrap64 (x11_3 + 1)) (x12_3 ++ [x11_3]) (x13_3 ++ [wrap64 (t347 - a2)])) else (none)) else (none))) = some (r1,r2,r3) := by rw [if_neg (show ¬ (false = true) by decide)] at H; exact H
                 clear H; have H := H1; clear H1
                 by_cases c23 : (x12_3.length : Int) = 4096
                 · rw [if_pos c23] at H
                   have c23b0 : ((x12_3.length : Int) == 4096) = true := beq_iff_eq.mpr c23; have c23b1 : ((x12_3.length : Int) != 4096) = false := bne_eq_false_iff_eq.mpr c23; clear c23; simp only [Option.some.injEq,Prod.mk.injEq] at H; obtain ⟨rfl,rfl,rfl⟩ := H; obtain ⟨Ao24,co24,eo24⟩ := Kd.Xd HO_12.out; subst eo24
                   go_wp2
                   go_ret3
                   exact ⟨_,_,by first | rfl | (simp [Zv,Zu] <;> rfl) | (simp [*,Zv,Zu] <;> rfl),by first | exact Kd.R_nil _ _ _ _ _ | exact Kd.N_nil _ _ _ _ _ | exact Kd.V_nil _ _ _ _ _ | exact Kd.Q_nil _ _ _ _ _ | exact Kd.S_nil _ _ _ _ _,by first | exact Kd.R_nil _ _ _ _ _ | exact Kd.N_nil _ _ _ _ _ | exact Kd.V_nil _ _ _ _ _ | exact Kd.Q_nil _ _ _ _ _ | exact Kd.S_nil _ _ _ _ _,by repeat (first | (with_reducible first | exact HB.out | apply Zd | apply Za | apply Zb) | exact HB.out)⟩
                 · rw [if_neg c23] at H
                   have c23b0 : ((x12_3.length : Int) == 4096) = false := beq_eq_false_iff_ne.mpr c23; have c23b1 : ((x12_3.length : Int) != 4096) = true := bne_iff_ne.mpr c23
                   by_cases c25 : x12_3.length < 17592186044416
                   · rw [if_pos c25] at H
                     have LMc25 := Zc.mk c25; clear c25
                     obtain ⟨y348,hy348⟩ : ∃ y_ : List Int,y_ = (x12_3 ++ [x11_3]) := ⟨_,rfl⟩
                     replace H : (if x13_3.length < 17592186044416 then (Zi.l0 kj19 l0 a1 a2 a3 (wrap64 (x11_3 + 1)) y348 (x13_3 ++ [wrap64 (t347 - a2)])) else (none)) = some (r1,r2,r3) := by first | (rw [hy348]; with_reducible exact H) | (have H2_ := (Option.bind_some _ _).symm.trans H; rw [hy348]; with_reducible exact H2_) | (have H2_ := (Option.bind_some _ _).symm.trans H; with_reducible exact H2_) | with_reducible exact H | (rw [hy348]; exact H) | exact H
                     have Ny348 := Zc.mk hy348; clear hy348
                     by_cases c26 : x13_3.length < 17592186044416
                     · rw [if_pos c26] at H
                       have LMc26 := Zc.mk c26; clear c26
                       obtain ⟨y351,hy351⟩ : ∃ y_ : List Int,y_ = (x13_3 ++ [wrap64 (t347 - a2)]) := ⟨_,rfl⟩
                       replace H : (Zi.l0 kj19 l0 a1 a2 a3 (wrap64 (x11_3 + 1)) y348 y351) = some (r1,r2,r3) := by first | (rw [hy351]; with_reducible exact H) | (have H2_ := (Option.bind_some _ _).symm.trans H; rw [hy351]; with_reducible exact H2_) | (have H2_ := (Option.bind_some _ _).symm.trans H; with_reducible exact H2_) | with_reducible exact H | (rw [hy351]; exact H) | exact H
                       have Ny351 := Zc.mk hy351; clear hy351; have H' := Zc.mk H; clear H; obtain ⟨Ao27,co27,eo27⟩ := Kd.Xd HO_12.out; subst eo27
                       go_wp2_with (first | ((with_reducible refine X8 (b := .append) (xs := #[.tmp 67,.tmp 69]) rfl ?_); at_builtin; refine Kd.XY (Kd.int .i64) (w0 := w) w.heap.size rfl (.tmp 67) (.tmp 69) 46 3 (.int .i64 0) 8 rfl Try.underlying46 info3 rfl (by decide) (by omega) (.slice Ao27 x12_3.length co27) x12_3 x11_3 [.int .i64 x11_3] (fun k_ => some k_ ≠ (u13 : Value).ownBlock) (fun _ => False) rfl rfl ?aP (fun _ hk => hk.elim) ?aF ?aO ?aB ?aS ?aL ?_; (case aP => exact rfl); (case aB => exact (by repeat (first | (with_reducible first | exact HB.out | apply Zd | apply Za | apply Zb) | exact HB.out))); (case aF => exact (fun k_ hk => Kd.fresh' (Kd.R_lt (by (with_reducible repeat (first | apply Kd.Zl | apply Kd.Zk | apply Kd.Zs)); exact HO_13.out)) k_ hk)); (case aO => exact (by (with_reducible repeat (first | apply Kd.Zl | apply Kd.Zk | apply Kd.Zs)); exact HO_12.out)); (case aS => exact (ZH (by repeat (first | (with_reducible first | exact HB.out | apply Zd | apply Za | apply Zb) | exact HB.out)))); (case aL => have := LMc25.out; omega); intro v349 w28 ho hb hg hat; rw [← Ny348.out] at ho; have n0_ := Zc.mk (Kd.Xt (ok := (fun _ => True)) (by (with_reducible repeat (first | apply Kd.Zl | apply Kd.Zk | apply Kd.Zs)); exact Kd.ZN HO_13.out (fun _ hk => ⟨trivial,hk⟩)) hg hat); have n1_ := Zc.mk (hb); have n2_ := Zc.mk (ho); clear HO_13; clear HB; clear HO_12; have HO_13 := n0_; have HB := n1_; have HO350 := n2_; clear n0_ n1_ n2_; clear ho hb hg hat) | ((with_reducible refine X8 (b := .append) (xs := #[.tmp 71,.tmp 75]) rfl ?_); at_builtin; refine Kd.XY (Kd.int .i64) (w0 := w) w.heap.size rfl (.tmp 71) (.tmp 75) 46 3 (.int .i64 0) 8 rfl Try.underlying46 info3 rfl (by decide) (by omega) u13 x13_3 (wrap64 (t347 - a2)) [.int .i64 (wrap64 (t347 - a2))] (fun k_ => some k_ ≠ (v349 : Value).ownBlock) (fun _ => False) rfl rfl ?aP (fun _ hk => hk.elim) ?aF ?aO ?aB ?aS ?aL ?_; (case aP => exact rfl); (case aB => exact (by repeat (first | (with_reducible first | exact HB.out | apply Zd | apply Za | apply Zb) | exact HB.out))); (case aF => exact (fun k_ hk => Kd.fresh' (Kd.R_lt (by (with_reducible repeat (first | apply Kd.Zl | apply Kd.Zk | apply Kd.Zs)); exact HO350.out)) k_ hk)); (case aO => exact (by (with_reducible repeat (first | apply Kd.Zl | apply Kd.Zk | apply Kd.Zs)); exact Kd.ZN HO_13.out (fun _ hk => hk.2))); (case aS => exact (ZH (by repeat (first | (with_reducible first | exact HB.out | apply Zd | apply Za | apply Zb) | exact HB.out)))); (case aL => have := LMc26.out; omega); intro v352 w29 ho hb hg hat; rw [← Ny351.out] at ho; have n0_ := Zc.mk (Kd.Xt (ok := (fun _ => True)) (by (with_reducible repeat (first | apply Kd.Zl | apply Kd.Zk | apply Kd.Zs)); exact Kd.ZN HO350.out (fun _ hk => ⟨trivial,hk⟩)) hg hat); have n1_ := Zc.mk (hb); have n2_ := Zc.mk (ho); clear HO350; clear HB; clear HO_13; have HO350 := n0_; have HB := n1_; have HO353 := n2_; clear n0_ n1_ n2_; clear ho hb hg hat))
                       go_roundg kj19
                       case measure => have := HJ6.out; have := HJ14.out; have := HK3.out; have := HJ19.out; omega
                       case rel => exact ⟨(wrap64 (x11_3 + 1)),(y348),(y351),(by first | rfl | (simp; done) | (simp [*]; done)),H',⟨by have := HJ6.out; have := HJ14.out; have := HK3.out; have := HJ19.out; omega⟩,⟨by (with_reducible repeat (first | apply Kd.Zl | apply Kd.Zk | apply Kd.Zs)); exact Kd.ZN HO350.out (fun _ hk => hk.2)⟩,⟨by (with_reducible repeat (first | apply Kd.Zl | apply Kd.Zk | apply Kd.Zs)); exact HO353.out⟩,⟨by repeat (first | (with_reducible first | exact HB.out | apply Zd | apply Za | apply Zb) | exact HB.out)⟩⟩
                     · rw [if_neg c26] at H
                       exact absurd H (by simp)
                   · rw [if_neg c25] at H
                     exact absurd H (by simp)
           · rw [if_neg c18] at H
             have c18b0 : decide (x11_3 ≤ 1000000000) = false := decide_eq_false c18; clear c18; simp only [Option.some.injEq,Prod.mk.injEq] at H; obtain ⟨rfl,rfl,rfl⟩ := H
             go_wp2
             go_ret3
             exact ⟨_,_,by first | rfl | (simp [Zv,Zu] <;> rfl) | (simp [*,Zv,Zu] <;> rfl),by (with_reducible repeat (first | apply Kd.Zl | apply Kd.Zk | apply Kd.Zs)); exact HO_12.out,by (with_reducible repeat (first | apply Kd.Zl | apply Kd.Zk | apply Kd.Zs)); exact HO_13.out,by repeat (first | (with_reducible first | exact HB.out | apply Zd | apply Za | apply Zb) | exact HB.out)⟩
 · replace c6 := Bool.eq_false_iff.mpr c6
   subst c6
   have H1 : (some (([] : List Int),([] : List Int),1)) = some (r1,r2,r3) := by rw [if_neg (show ¬ (false = true) by decide)] at H; exact H
   clear H; have H := H1; clear H1; simp only [Option.some.injEq,Prod.mk.injEq] at H; obtain ⟨rfl,rfl,rfl⟩ := H
   go_enter Try.func30,Try.ntmps30
   go_wp2_with (first | ((with_reducible refine Z1 (f := 11) rfl ?_); refine ZQ (some 16) rfl rfl Try.func11 (by kernel_rfl) rfl #[.slice A0 l0.length c0] rfl (by (try simp only [List.map_toArray,List.map_cons,List.map_nil]); first | done | rfl | (simp only [List.length_drop,List.length_take]; rfl)) ?_; (with_reducible refine (Zh.calls k _ _ l0 false _ ?side1 ?side2 A5.out).mono ?_); (case side1 => repeat (first | exact HR0.out | (with_reducible refine Kd.ZA ?_ _) | (with_reducible refine Kd.Z9 ?_ _) | (with_reducible refine Kd.ZI ?_))); (case side2 => exact HC0.out); rintro e w30 ⟨rfl,hb⟩; refine ⟨_,rfl,?_⟩; have n0_ := Zc.mk (Z3 (by repeat (first | (with_reducible first | exact HB.out | apply Zd | apply Za | apply Zb) | exact HB.out)) hb); clear HB; have HB := n0_; clear n0_; (try clear hb); (try clear hb2); (try clear hk); (try clear hi)))
   go_ret3
   exact ⟨_,_,by first | rfl | (simp [Zv,Zu] <;> rfl) | (simp [*,Zv,Zu] <;> rfl),by first | exact Kd.R_nil _ _ _ _ _ | exact Kd.N_nil _ _ _ _ _ | exact Kd.V_nil _ _ _ _ _ | exact Kd.Q_nil _ _ _ _ _ | exact Kd.S_nil _ _ _ _ _,by first | exact Kd.R_nil _ _ _ _ _ | exact Kd.N_nil _ _ _ _ _ | exact Kd.V_nil _ _ _ _ _ | exact Kd.Q_nil _ _ _ _ _ | exact Kd.S_nil _ _ _ _ _,by repeat (first | (with_reducible first | exact HB.out | apply Zd | apply Za | apply Zb) | exact HB.out)⟩
end Go.Proofs.Ytomlfbmfdoallaa.PA

namespace Go.Proofs.Ytomlfbmfdoallaa.PA
open Go.RowKit Go.Proofs.YtomlfbmfdoallaaW.PrintWords Go.Proofs.YtomlfbmfdoallaaW.PrintLast Go.Proofs.YtomlfbmfdoallaaW.PrintMore
attribute [local go_sem] Xf Xg Xo Xn Xa ZZ Xh Xi
set_option linter.unusedVariables false
set_option linter.unusedSimpArgs false
def Zw.l0 : Nat → List Int → List Int → Int → Option (Bool)
 | 0,_,_,_ => none
 | k + 1,x0,x1,x5 => if x5 < (x0.length : Int) then (if 0 ≤ x5 then (if x5 < (x1.length : Int) then (if (rd x0 x5) = (rd x1 x5) then (Zw.l0 k x0 x1 (wrap64 (x5 + 1))) else (some false)) else (none)) else (none)) else (some true)
def Zw.f (k : Nat) (l0 : List Int) (l1 : List Int) : Option (Bool) := if (l0.length : Int) = (l1.length : Int) then (Zw.l0 k l0 l1 0) else (some false)
theorem Zw.Xq : ∀ k,(∀ y0 y1 y2,LeO (Zw.l0 k y0 y1 y2) (Zw.l0 (k + 1) y0 y1 y2))
 | 0 => fun _ _ _ r h => by simp [Zw.l0] at h
 | k + 1 => by
  have ih0 := Zw.Xq k
  · intro y0 y1 y2
    unfold Zw.l0
    repeat' first
    | (with_reducible exact ih0 _ _ _)
    | (with_reducible exact LeO.refl _)
    | (with_reducible exact LeO.none _)
    | (with_reducible refine LeO.ite ?_ ?_)
    | (with_reducible refine LeO.bind ?_ (fun _ => ?_))
    | exact ih0 _ _ _
    | exact LeO.none _
    | refine LeO.ite ?_ ?_
    | refine LeO.bind ?_ (fun _ => ?_)
theorem Zw.mono : ∀ a0 a1 k,LeO (Zw.f k a0 a1) (Zw.f (k + 1) a0 a1) := by
 intro a0 a1 k; have ih0 := Zw.Xq k; unfold Zw.f
 repeat' first
  | (with_reducible exact ih0 _ _ _)
  | (with_reducible exact LeO.refl _)
  | (with_reducible exact LeO.none _)
  | (with_reducible refine LeO.ite ?_ ?_)
  | (with_reducible refine LeO.bind ?_ (fun _ => ?_))
  | exact ih0 _ _ _
  | exact LeO.none _
  | refine LeO.ite ?_ ?_
  | refine LeO.bind ?_ (fun _ => ?_)
set_option maxHeartbeats 8000000 in
set_option maxRecDepth 100000 in
theorem Zw.calls (k : Nat) (A0 : Option Addr) (c0 : Nat) (l0 : List Int) (A1 : Option Addr) (c1 : Nat) (l1 : List Int) (r : Bool) (w : World) (hr0 : Kd.C (Kd.int .i64) w A0 l0.length l0) (hc0 : l0.length ≤ c0) (hr1 : Kd.C (Kd.int .i64) w A1 l1.length l1) (hc1 : l1.length ≤ c1) (h : Zw.f k l0 l1 = some r) :
 Calls Try.prog 31 #[.slice A0 l0.length c0,.slice A1 l1.length c1] w fun e w' => e = .returned (.bool r) ∧ Drawn0 w w' := by
 have HR0 := Zc.mk hr0; have HC0 := Zc.mk hc0; clear hr0 hc0; have HR1 := Zc.mk hr1; have HC1 := Zc.mk hc1; clear hr1 hc1; have H : (if (l0.length : Int) = (l1.length : Int) then (Zw.l0 k l0 l1 0) else (some false)) = some r := h; clear h
 by_cases c3 : (l0.length : Int) = (l1.length : Int)
 · rw [if_pos c3] at H
   have c3b0 : ((l0.length : Int) == (l1.length : Int)) = true := beq_iff_eq.mpr c3; have c3b1 : ((l0.length : Int) != (l1.length : Int)) = false := bne_eq_false_iff_eq.mpr c3
   have c3b2 : (l0.length == l1.length) = true := by first | simpa using c3 | (simp at c3 ⊢; omega)
   clear c3; have H' := Zc.mk H; clear H
   go_enter Try.func31,Try.ntmps31
   go_wp2
   repeat (go_quiet (fail); try go_wp2)
   go_loopg [5] k (fun kq v5 w' => ∃ (x5_1 : Int),v5 = .int .i64 x5_1 ∧ Zc (Zw.l0 kq l0 l1 x5_1 = some r) ∧ Zc (kq ≤ k) ∧ Drawn0 w w')
   case atStart => exact ⟨(0),(by first | rfl | (simp; done) | (simp [*]; done)),H',⟨Nat.le_refl _⟩,by repeat (first | exact Drawn0.refl _ | apply Drawn0.step)⟩
   case round =>
    clear H'
    (try clear c1); (try clear p2); (try clear c3); (try clear c3b0); (try clear c3b1); (try clear c3b2)
    obtain ⟨x5_1,rfl,HA,HK1,⟨m1,rfl⟩⟩ := hrel
    cases gk with
    | zero => exact absurd HA.out (by simp [Zw.l0])
    | succ k1 =>
     have H := HA.out; clear HA; simp only [Zw.l0] at H
     by_cases c4 : x5_1 < (l0.length : Int)
     · rw [if_pos c4] at H
       have c4b0 : decide (x5_1 < (l0.length : Int)) = true := decide_eq_true c4; clear c4
       by_cases c5 : 0 ≤ x5_1
       · rw [if_pos c5] at H
         have c5b0 : decide (0 ≤ x5_1) = true := decide_eq_true c5; clear c5
         by_cases c6 : x5_1 < (l1.length : Int)
         · rw [if_pos c6] at H
           have c6b0 : decide (x5_1 < (l1.length : Int)) = true := decide_eq_true c6; clear c6
           by_cases c7 : (rd l0 x5_1) = (rd l1 x5_1)
           · rw [if_pos c7] at H
             have c7b0 : ((rd l0 x5_1) == (rd l1 x5_1)) = true := beq_iff_eq.mpr c7; have c7b1 : ((rd l0 x5_1) != (rd l1 x5_1)) = false := bne_eq_false_iff_eq.mpr c7; clear c7; have H' := Zc.mk H; clear H; have p354 : 0 ≤ (x5_1 : Int) := of_decide_eq_true (by first | (with_reducible assumption) | assumption); have q354 : x5_1 < (l0.length : Int) := of_decide_eq_true (by first | (with_reducible assumption) | assumption); obtain ⟨ad354,e354,hx354_0⟩ := Kd.Qv HR0.out x5_1 p354 q354
             cases e354
             replace p354 := eq_true p354; replace q354 := eq_true q354; have p355 : 0 ≤ (x5_1 : Int) := of_decide_eq_true (by first | (with_reducible assumption) | assumption); have q355 : x5_1 < (l1.length : Int) := of_decide_eq_true (by first | (with_reducible assumption) | assumption); obtain ⟨ad355,e355,hx355_0⟩ := Kd.Qv HR1.out x5_1 p355 q355
             cases e355
             replace p355 := eq_true p355; replace q355 := eq_true q355
             go_wp2
             repeat (go_quiet (fail); try go_wp2)
             go_roundg k1
             case measure => have := HK1.out; omega
             case rel => exact ⟨(wrap64 (x5_1 + 1)),(by first | rfl | (simp; done) | (simp [*]; done)),H',⟨by have := HK1.out; omega⟩,by repeat (first | exact Drawn0.refl _ | apply Drawn0.step)⟩
           · rw [if_neg c7] at H
             have c7b0 : ((rd l0 x5_1) == (rd l1 x5_1)) = false := beq_eq_false_iff_ne.mpr c7; have c7b1 : ((rd l0 x5_1) != (rd l1 x5_1)) = true := bne_iff_ne.mpr c7; obtain rfl := Option.some.inj H; have p354 : 0 ≤ (x5_1 : Int) := of_decide_eq_true (by first | (with_reducible assumption) | assumption); have q354 : x5_1 < (l0.length : Int) := of_decide_eq_true (by first | (with_reducible assumption) | assumption); obtain ⟨ad354,e354,hx354_0⟩ := Kd.Qv HR0.out x5_1 p354 q354
             cases e354
             replace p354 := eq_true p354; replace q354 := eq_true q354; have p355 : 0 ≤ (x5_1 : Int) := of_decide_eq_true (by first | (with_reducible assumption) | assumption); have q355 : x5_1 < (l1.length : Int) := of_decide_eq_true (by first | (with_reducible assumption) | assumption); obtain ⟨ad355,e355,hx355_0⟩ := Kd.Qv HR1.out x5_1 p355 q355
             cases e355
             replace p355 := eq_true p355; replace q355 := eq_true q355
             go_wp2
             repeat (go_quiet (fail); try go_wp2)
             go_ret; exact ⟨by first | rfl | (simp; done) | (simp [*]; done),by repeat (first | exact Drawn0.refl _ | apply Drawn0.step)⟩
         · rw [if_neg c6] at H
           exact absurd H (by simp)
       · rw [if_neg c5] at H
         exact absurd H (by simp)
     · rw [if_neg c4] at H
       have c4b0 : decide (x5_1 < (l0.length : Int)) = false := decide_eq_false c4; clear c4; obtain rfl := Option.some.inj H
       go_wp2
       repeat (go_quiet (fail); try go_wp2)
       go_ret; exact ⟨by first | rfl | (simp; done) | (simp [*]; done),by repeat (first | exact Drawn0.refl _ | apply Drawn0.step)⟩
 · rw [if_neg c3] at H
   have c3b0 : ((l0.length : Int) == (l1.length : Int)) = false := beq_eq_false_iff_ne.mpr c3; have c3b1 : ((l0.length : Int) != (l1.length : Int)) = true := bne_iff_ne.mpr c3
   have c3b2 : (l0.length == l1.length) = false := by first | simpa using c3 | (simp at c3 ⊢; omega)
   obtain rfl := Option.some.inj H
   go_enter Try.func31,Try.ntmps31
   go_wp2
   repeat (go_quiet (fail); try go_wp2)
   go_ret; exact ⟨by first | rfl | (simp; done) | (simp [*]; done),by repeat (first | exact Drawn0.refl _ | apply Drawn0.step)⟩
end Go.Proofs.Ytomlfbmfdoallaa.PA
