/- TempoBlocks, part 6: what the row is built on. -/
import Derived.Test.YtomlfbmfdoallaaCTempoBlocks5
namespace Go.Proofs.Ytomlfbmfdoallaa.PA
open Go.RowKit Go.Proofs.YtomlfbmfdoallaaW.PrintWords Go.Proofs.YtomlfbmfdoallaaW.PrintLast Go.Proofs.YtomlfbmfdoallaaW.PrintMore
attribute [local go_sem] Xf Xg Xo Xn Xa ZZ Xh Xi
set_option linter.unusedVariables false
set_option linter.unusedSimpArgs false
mutual
def ZG.j0 : Nat → List (S56) → List (S27) → Int → Int → Int → Bool → Option (List Int × Int)
 | 0,_,_,_,_,_,_ => none
 | k + 1,x0,x1,x2,x3,x4,x40 => if x40 = true then (some (([] : List Int),7)) else (ZG.l0 k x0 x1 x2 x3 ([] : List Int) x4 0)
def ZG.l0 : Nat → List (S56) → List (S27) → Int → Int → List Int → Int → Int → Option (List Int × Int)
 | 0,_,_,_,_,_,_,_ => none
 | k + 1,x0,x1,x2,x3,x13,x41,x42 => if x42 < x41 then ((Xw.f x1 x2 (wrap64 (x3 + x42))).bind fun t370 => ((XB.f x0 t370).bind fun t371 => (if x13.length < 17592186044416 then (ZG.l0 k x0 x1 x2 x3 (x13 ++ [t371]) x41 (wrap64 (x42 + 1))) else (none)))) else (some (x13,0))
end
def ZG.f (k : Nat) (l0 : List (S56)) (l1 : List (S27)) (a2 : Int) (a3 : Int) (a4 : Int) : Option (List Int × Int) := (Zm.f k l0).bind fun t364 => (if t364 = true then ((ZP.f k l1 (([a2,a3] : List Int))).bind fun t368 => (if t368 = 0 then (if a3 < a2 then (ZG.j0 k l0 l1 a2 a3 a4 true) else ((Z6.f a4 0 4096).bind fun t369 => (if t369 = true then (ZG.j0 k l0 l1 a2 a3 a4 (decide ((wrap64 ((wrap64 (a3 + a4)) - 1)) > 1000000000))) else (ZG.j0 k l0 l1 a2 a3 a4 true)))) else (some (([] : List Int),t368)))) else (some (([] : List Int),1)))
theorem ZG.Xq : ∀ k,(∀ y0 y1 y2 y3 y4 y5,LeO (ZG.j0 k y0 y1 y2 y3 y4 y5) (ZG.j0 (k + 1) y0 y1 y2 y3 y4 y5)) ∧ (∀ y0 y1 y2 y3 y4 y5 y6,LeO (ZG.l0 k y0 y1 y2 y3 y4 y5 y6) (ZG.l0 (k + 1) y0 y1 y2 y3 y4 y5 y6))
 | 0 => ⟨fun _ _ _ _ _ _ r h => by simp [ZG.j0] at h,fun _ _ _ _ _ _ _ r h => by simp [ZG.l0] at h⟩
 | k + 1 => by
  obtain ⟨ih0,ih1⟩ := ZG.Xq k; refine ⟨?_,?_⟩
  · intro y0 y1 y2 y3 y4 y5
    unfold ZG.j0
    repeat' first
    | (with_reducible exact ih0 _ _ _ _ _ _)
    | (with_reducible exact ih1 _ _ _ _ _ _ _)
    | (with_reducible exact Zm.mono _ _)
    | (with_reducible exact ZP.mono _ _ _)
    | (with_reducible exact LeO.refl _)
    | (with_reducible exact LeO.none _)
    | (with_reducible refine LeO.ite ?_ ?_)
    | (with_reducible refine LeO.bind ?_ (fun _ => ?_))
    | exact ih0 _ _ _ _ _ _
    | exact ih1 _ _ _ _ _ _ _
    | exact Zm.mono _ _
    | exact ZP.mono _ _ _
    | exact LeO.none _
    | refine LeO.ite ?_ ?_
    | refine LeO.bind ?_ (fun _ => ?_)
  · intro y0 y1 y2 y3 y4 y5 y6
    unfold ZG.l0
    repeat' first
    | (with_reducible exact ih0 _ _ _ _ _ _)
    | (with_reducible exact ih1 _ _ _ _ _ _ _)
    | (with_reducible exact Zm.mono _ _)
    | (with_reducible exact ZP.mono _ _ _)
    | (with_reducible exact LeO.refl _)
    | (with_reducible exact LeO.none _)
    | (with_reducible refine LeO.ite ?_ ?_)
    | (with_reducible refine LeO.bind ?_ (fun _ => ?_))
    | exact ih0 _ _ _ _ _ _
    | exact ih1 _ _ _ _ _ _ _
    | exact Zm.mono _ _
    | exact ZP.mono _ _ _
    | exact LeO.none _
    | refine LeO.ite ?_ ?_
    | refine LeO.bind ?_ (fun _ => ?_)
theorem ZG.mono : ∀ a0 a1 a2 a3 a4 k,LeO (ZG.f k a0 a1 a2 a3 a4) (ZG.f (k + 1) a0 a1 a2 a3 a4) := by
 intro a0 a1 a2 a3 a4 k; obtain ⟨ih0,ih1⟩ := ZG.Xq k; unfold ZG.f
 repeat' first
  | (with_reducible exact ih0 _ _ _ _ _ _)
  | (with_reducible exact ih1 _ _ _ _ _ _ _)
  | (with_reducible exact Zm.mono _ _)
  | (with_reducible exact ZP.mono _ _ _)
  | (with_reducible exact LeO.refl _)
  | (with_reducible exact LeO.none _)
  | (with_reducible refine LeO.ite ?_ ?_)
  | (with_reducible refine LeO.bind ?_ (fun _ => ?_))
  | exact ih0 _ _ _ _ _ _
  | exact ih1 _ _ _ _ _ _ _
  | exact Zm.mono _ _
  | exact ZP.mono _ _ _
  | exact LeO.none _
  | refine LeO.ite ?_ ?_
  | refine LeO.bind ?_ (fun _ => ?_)
set_option maxHeartbeats 8000000 in
set_option maxRecDepth 100000 in
theorem ZG.calls (k : Nat) (A0 : Option Addr) (c0 : Nat) (l0 : List (S56)) (A1 : Option Addr) (c1 : Nat) (l1 : List (S27)) (a2 : Int) (a3 : Int) (a4 : Int) (r1 : List Int) (r2 : Int) (w : World) (hr0 : Kd.C k56 w A0 l0.length l0) (hc0 : l0.length ≤ c0) (hr1 : Kd.C k27 w A1 l1.length l1) (hc1 : l1.length ≤ c1) (h : ZG.f k l0 l1 a2 a3 a4 = some (r1,r2)) :
 Calls Try.prog 32 #[.slice A0 l0.length c0,.slice A1 l1.length c1,.int .i64 a2,.int .i64 a3,.int .i64 a4] w fun e w' => ∃ v0_ : Value,e = .returned (.tuple #[v0_,.int .i64 r2]) ∧ Kd.R (Kd.int .i64) 3 w' w.heap.size (fun _ => True) v0_ r1 ∧ Below w.heap.size w w' := by
 have HR0 := Zc.mk hr0; have HC0 := Zc.mk hc0; clear hr0 hc0; have HR1 := Zc.mk hr1; have HC1 := Zc.mk hc1; clear hr1 hc1; have HB := Zc.mk (Below.refl w.heap.size w); have H : ((Zm.f k l0).bind fun t364 => (if t364 = true then ((ZP.f k l1 (([a2,a3] : List Int))).bind fun t368 => (if t368 = 0 then (if a3 < a2 then (ZG.j0 k l0 l1 a2 a3 a4 true) else ((Z6.f a4 0 4096).bind fun t369 => (if t369 = true then (ZG.j0 k l0 l1 a2 a3 a4 (decide ((wrap64 ((wrap64 (a3 + a4)) - 1)) > 1000000000))) else (ZG.j0 k l0 l1 a2 a3 a4 true)))) else (some (([] : List Int),t368)))) else (some (([] : List Int),1)))) = some (r1,r2) := h; clear h; replace H := Option.bind_eq_some_iff.mp H; obtain ⟨t364,A60,H⟩ := H; replace H : (if t364 = true then ((ZP.f k l1 (([a2,a3] : List Int))).bind fun t368 => (if t368 = 0 then (if a3 < a2 then (ZG.j0 k l0 l1 a2 a3 a4 true) else ((Z6.f a4 0 4096).bind fun t369 => (if t369 = true then (ZG.j0 k l0 l1 a2 a3 a4 (decide ((wrap64 ((wrap64 (a3 + a4)) - 1)) > 1000000000))) else (ZG.j0 k l0 l1 a2 a3 a4 true)))) else (some (([] : List Int),t368)))) else (some (([] : List Int),1))) = some (r1,r2) := H; have A6 := Zc.mk A60; clear A60
 by_cases c7 : t364 = true
 · subst c7
   have H1 : ((ZP.f k l1 (([a2,a3] : List Int))).bind fun t368 => (if t368 = 0 then (if a3 < a2 then (ZG.j0 k l0 l1 a2 a3 a4 true) else ((Z6.f a4 0 4096).bind fun t369 => (if t369 = true then (ZG.j0 k l0 l1 a2 a3 a4 (decide ((wrap64 ((wrap64 (a3 + a4)) - 1)) > 1000000000))) else (ZG.j0 k l0 l1 a2 a3 a4 true)))) else (some (([] : List Int),t368)))) = some (r1,r2) := by rw [if_pos rfl] at H; exact H
   clear H; have H := H1; clear H1
   obtain ⟨y365,hy365⟩ : ∃ y_ : List Int,y_ = (([a2,a3] : List Int)) := ⟨_,rfl⟩
   replace H : ((ZP.f k l1 y365).bind fun t368 => (if t368 = 0 then (if a3 < a2 then (ZG.j0 k l0 l1 a2 a3 a4 true) else ((Z6.f a4 0 4096).bind fun t369 => (if t369 = true then (ZG.j0 k l0 l1 a2 a3 a4 (decide ((wrap64 ((wrap64 (a3 + a4)) - 1)) > 1000000000))) else (ZG.j0 k l0 l1 a2 a3 a4 true)))) else (some (([] : List Int),t368)))) = some (r1,r2) := by first | (rw [hy365]; with_reducible exact H) | (have H2_ := (Option.bind_some _ _).symm.trans H; rw [hy365]; with_reducible exact H2_) | (have H2_ := (Option.bind_some _ _).symm.trans H; with_reducible exact H2_) | with_reducible exact H | (rw [hy365]; exact H) | exact H
   have Ny365 := Zc.mk hy365; clear hy365; replace H := Option.bind_eq_some_iff.mp H; obtain ⟨t368,A80,H⟩ := H; replace H : (if t368 = 0 then (if a3 < a2 then (ZG.j0 k l0 l1 a2 a3 a4 true) else ((Z6.f a4 0 4096).bind fun t369 => (if t369 = true then (ZG.j0 k l0 l1 a2 a3 a4 (decide ((wrap64 ((wrap64 (a3 + a4)) - 1)) > 1000000000))) else (ZG.j0 k l0 l1 a2 a3 a4 true)))) else (some (([] : List Int),t368))) = some (r1,r2) := H; have A8 := Zc.mk A80; clear A80
   by_cases c9 : t368 = 0
   · rw [if_pos c9] at H
     have c9b0 : (t368 == 0) = true := beq_iff_eq.mpr c9; have c9b1 : (t368 != 0) = false := bne_eq_false_iff_eq.mpr c9; clear c9; have HC10 := Zc.mk H; clear H
     go_enter Try.func32,Try.ntmps32
     go_upto_region 6 with (first | ((with_reducible refine Z1 (f := 36) rfl ?_); refine ZQ (some 16) rfl rfl Try.func36 (by kernel_rfl) rfl #[.slice A0 l0.length c0] rfl (by (try simp only [List.map_toArray,List.map_cons,List.map_nil]); first | done | rfl | (simp only [List.length_drop,List.length_take]; rfl)) ?_; (with_reducible refine (Zm.calls k _ _ l0 true _ ?side1 ?side2 A6.out).mono ?_); (case side1 => repeat (first | exact HR0.out | (with_reducible refine Kd.ZA ?_ _) | (with_reducible refine Kd.Z9 ?_ _) | (with_reducible refine Kd.ZI ?_))); (case side2 => exact HC0.out); rintro e w11 ⟨rfl,hb⟩; refine ⟨_,rfl,?_⟩; have n0_ := Zc.mk (Z3 (by repeat (first | (with_reducible first | exact HB.out | apply Zd | apply Za | apply Zb) | exact HB.out)) hb); clear HB; have HB := n0_; clear n0_; (try clear hb); (try clear hb2); (try clear hk); (try clear hi)) | ((with_reducible refine Xr (N := 21) rfl ?_); refine Kd.R_lit (Kd.int .i64) _ 3 ?hg (N := 21) ?hd (xs := ([a2,a3] : List Int)) (inner := [.int .i64 a2,.int .i64 a3]) (ok := fun _ => True) (okp := fun _ => True) ?hr ?hp (fun _ hk => hk) trivial (Below.refl _ _) (Nat.le_refl _) (by simp) ?_; (case hd => rfl); (case hg => rfl); (case hr => first | (go_simp; done) | (go_simp; rfl)); (case hp => exact (Reps.one (show Kd.M (Kd.int .i64) _ _ _ a2 [.int .i64 a2] from rfl) (Reps.one (show Kd.M (Kd.int .i64) _ _ _ a3 [.int .i64 a3] from rfl) (Reps.none _ _)))); intro v366 w12 ho13 hb hg_ hnew_; clear hg_ hnew_; (first | rw [← Ny365.out] at ho13 | (simp only [Int.reduceToNat] at ho13; rw [← Ny365.out] at ho13)); have n0_ := Zc.mk (Kd.Xs ho13 (ZH (by repeat (first | (with_reducible first | exact HB.out | apply Zd | apply Za | apply Zb) | exact HB.out)))); have n1_ := Zc.mk (Z3 (by repeat (first | (with_reducible first | exact HB.out | apply Zd | apply Za | apply Zb) | exact HB.out)) hb); clear HB; have HO367 := n0_; have HB := n1_; clear n0_ n1_; clear hb ho13; obtain ⟨Ao14,co14,eo14⟩ := Kd.Xd HO367.out; subst eo14) | ((with_reducible refine Z1 (f := 40) rfl ?_); refine ZQ (some 22) rfl rfl Try.func40 (by kernel_rfl) rfl #[.slice A1 l1.length c1,.slice Ao14 y365.length co14] rfl (by (try simp only [List.map_toArray,List.map_cons,List.map_nil]); first | done | rfl | (simp only [List.length_drop,List.length_take]; rfl)) ?_; (with_reducible refine (ZP.calls k _ _ l1 _ _ y365 t368 _ ?side1 ?side2 ?side3 ?side4 A8.out).mono ?_); (case side1 => repeat (first | exact (Kd.ZO HR1.out HB.out) | (with_reducible refine Kd.ZA ?_ _) | (with_reducible refine Kd.Z9 ?_ _) | (with_reducible refine Kd.ZI ?_))); (case side2 => exact HC1.out); (case side3 => repeat (first | exact (Kd.ZL HO367.out).2.2 | (with_reducible refine Kd.ZA ?_ _) | (with_reducible refine Kd.Z9 ?_ _) | (with_reducible refine Kd.ZI ?_))); (case side4 => exact (Kd.ZL HO367.out).2.1); rintro e w15 ⟨rfl,hb⟩; refine ⟨_,rfl,?_⟩; have n0_ := Zc.mk (Kd.Xl (by (with_reducible repeat (first | apply Kd.Zl | apply Kd.Zk | apply Kd.Zs)); exact HO367.out) hb); have n1_ := Zc.mk (Z3 (by repeat (first | (with_reducible first | exact HB.out | apply Zd | apply Za | apply Zb) | exact HB.out)) hb); clear HO367; clear HB; have HO367 := n0_; have HB := n1_; clear n0_ n1_; (try clear hb); (try clear hb2); (try clear hk); (try clear hi)))
     (try simp only [Act.put,YD,YE,YF])
     go_cut [40] (fun v40 wc => ∃ (kq : Nat) (x40_9 : Bool),v40 = .bool x40_9 ∧ Zc (ZG.j0 kq l0 l1 a2 a3 a4 x40_9 = some (r1,r2)) ∧ Zc (kq ≤ k) ∧ Zc (Below w.heap.size w wc))
     case first =>
      have H := HC10.out; clear HC10
      by_cases c16 : a3 < a2
      · rw [if_pos c16] at H
        have c16b0 : decide (a3 < a2) = true := decide_eq_true c16; clear c16
        (first | rw [c16b0] | (simp only [i64_w,i32_w]; rw [c16b0]) | skip)
        have H' := Zc.mk H; clear H
        go_wp2
        go_meet
        case rel => exact ⟨_,(true),(by first | rfl | (simp; done) | (simp [*]; done)),H',⟨by first | omega | exact Nat.le_refl _⟩,⟨by repeat (first | (with_reducible first | exact HB.out | apply Zd | apply Za | apply Zb) | exact HB.out)⟩⟩
      · rw [if_neg c16] at H
        have c16b0 : decide (a3 < a2) = false := decide_eq_false c16; clear c16
        (first | rw [c16b0] | (simp only [i64_w,i32_w]; rw [c16b0]) | skip)
        replace H := Option.bind_eq_some_iff.mp H; obtain ⟨t369,A170,H⟩ := H; replace H : (if t369 = true then (ZG.j0 k l0 l1 a2 a3 a4 (decide ((wrap64 ((wrap64 (a3 + a4)) - 1)) > 1000000000))) else (ZG.j0 k l0 l1 a2 a3 a4 true)) = some (r1,r2) := H; have A17 := Zc.mk A170; clear A170
        by_cases c18 : t369 = true
        · subst c18
          have H1 : (ZG.j0 k l0 l1 a2 a3 a4 (decide ((wrap64 ((wrap64 (a3 + a4)) - 1)) > 1000000000))) = some (r1,r2) := by rw [if_pos rfl] at H; exact H
          clear H; have H := H1; clear H1; have H' := Zc.mk H; clear H
          go_wp2_with (first | (go_at_call 43; (with_reducible refine (Z6.calls a4 0 4096 true _ A17.out).mono ?_); rintro e w' ⟨rfl,⟨nd,rfl⟩⟩))
          go_meet
          case rel => exact ⟨_,(decide ((wrap64 ((wrap64 (a3 + a4)) - 1)) > 1000000000)),(by first | rfl | (simp; done) | (simp [*]; done)),H',⟨by first | omega | exact Nat.le_refl _⟩,⟨by repeat (first | (with_reducible first | exact HB.out | apply Zd | apply Za | apply Zb) | exact HB.out)⟩⟩
        · replace c18 := Bool.eq_false_iff.mpr c18
          subst c18
          have H1 : (ZG.j0 k l0 l1 a2 a3 a4 true) = some (r1,r2) := by rw [if_neg (show ¬ (false = true) by decide)] at H; exact H
          clear H; have H := H1; clear H1; have H' := Zc.mk H; clear H
          go_wp2_with (first | (go_at_call 43; (with_reducible refine (Z6.calls a4 0 4096 false _ A17.out).mono ?_); rintro e w' ⟨rfl,⟨nd,rfl⟩⟩))
          go_meet
          case rel => exact ⟨_,(true),(by first | rfl | (simp; done) | (simp [*]; done)),H',⟨by first | omega | exact Nat.le_refl _⟩,⟨by repeat (first | (with_reducible first | exact HB.out | apply Zd | apply Za | apply Zb) | exact HB.out)⟩⟩
     case rest =>
      clear HC10
      (try clear c1); (try clear p2); (try clear c3); (try clear c4); (try clear p6); (try clear c7); (try clear c9); (try clear c9b0); (try clear c9b1); (try clear c16); (try clear c16b0); (try clear c18)
      obtain ⟨kq,x40_9,rfl,HA,HJ9,HB⟩ := hcut
      cases kq with
      | zero => exact absurd HA.out (by simp [ZG.j0])
      | succ kj9 =>
       have H := HA.out; clear HA; simp only [ZG.j0] at H
       by_cases c19 : x40_9 = true
       · subst c19
         have H1 : (some (([] : List Int),7)) = some (r1,r2) := by rw [if_pos rfl] at H; exact H
         clear H; have H := H1; clear H1; simp only [Option.some.injEq,Prod.mk.injEq] at H; obtain ⟨rfl,rfl⟩ := H
         go_wp2
         go_ret2
         exact ⟨_,by first | rfl | (simp [Zv,Zu] <;> rfl) | (simp [*,Zv,Zu] <;> rfl),by first | exact Kd.R_nil _ _ _ _ _ | exact Kd.N_nil _ _ _ _ _ | exact Kd.V_nil _ _ _ _ _ | exact Kd.Q_nil _ _ _ _ _ | exact Kd.S_nil _ _ _ _ _,by repeat (first | (with_reducible first | exact HB.out | apply Zd | apply Za | apply Zb) | exact HB.out)⟩
       · replace c19 := Bool.eq_false_iff.mpr c19
         subst c19
         have H1 : (ZG.l0 kj9 l0 l1 a2 a3 ([] : List Int) a4 0) = some (r1,r2) := by rw [if_neg (show ¬ (false = true) by decide)] at H; exact H
         clear H; have H := H1; clear H1; have H' := Zc.mk H; clear H
         go_wp2
         go_loopg [13,42] kj9 (fun kq v13 v42 w' => ∃ (x13_2 : List Int) (x42_2 : Int),v42 = .int .i64 x42_2 ∧ Zc (ZG.l0 kq l0 l1 a2 a3 x13_2 a4 x42_2 = some (r1,r2)) ∧ Zc (kq ≤ kj9) ∧ Zc (Kd.R (Kd.int .i64) 3 w' w.heap.size (fun _ => True) v13 x13_2) ∧ Zc (Below w.heap.size w w'))
         case atStart => exact ⟨(([] : List Int)),(0),(by first | rfl | (simp; done) | (simp [*]; done)),H',⟨Nat.le_refl _⟩,⟨by first | exact Kd.R_nil _ _ _ _ _ | exact Kd.N_nil _ _ _ _ _ | exact Kd.V_nil _ _ _ _ _ | exact Kd.Q_nil _ _ _ _ _ | exact Kd.S_nil _ _ _ _ _⟩,⟨by repeat (first | (with_reducible first | exact HB.out | apply Zd | apply Za | apply Zb) | exact HB.out)⟩⟩
         case round =>
          clear H'
          (try clear c1); (try clear p2); (try clear c3); (try clear c4); (try clear p6); (try clear c7); (try clear c9); (try clear c9b0); (try clear c9b1); (try clear c16); (try clear c16b0); (try clear c18); (try clear c19); (try clear p2); (try clear p6)
          obtain ⟨x13_2,x42_2,rfl,HA,HK2,HO_13,HB⟩ := hrel
          cases gk with
          | zero => exact absurd HA.out (by simp [ZG.l0])
          | succ k2 =>
           have H := HA.out; clear HA; simp only [ZG.l0] at H
           by_cases c20 : x42_2 < a4
           · rw [if_pos c20] at H
             have c20b0 : decide (x42_2 < a4) = true := decide_eq_true c20; clear c20; replace H := Option.bind_eq_some_iff.mp H; obtain ⟨t370,A210,H⟩ := H; replace H : ((XB.f l0 t370).bind fun t371 => (if x13_2.length < 17592186044416 then (ZG.l0 k2 l0 l1 a2 a3 (x13_2 ++ [t371]) a4 (wrap64 (x42_2 + 1))) else (none))) = some (r1,r2) := H; have A21 := Zc.mk A210; clear A210; replace H := Option.bind_eq_some_iff.mp H; obtain ⟨t371,A220,H⟩ := H; replace H : (if x13_2.length < 17592186044416 then (ZG.l0 k2 l0 l1 a2 a3 (x13_2 ++ [t371]) a4 (wrap64 (x42_2 + 1))) else (none)) = some (r1,r2) := H; have A22 := Zc.mk A220; clear A220
             by_cases c23 : x13_2.length < 17592186044416
             · rw [if_pos c23] at H
               have LMc23 := Zc.mk c23; clear c23
               obtain ⟨y372,hy372⟩ : ∃ y_ : List Int,y_ = (x13_2 ++ [t371]) := ⟨_,rfl⟩
               replace H : (ZG.l0 k2 l0 l1 a2 a3 y372 a4 (wrap64 (x42_2 + 1))) = some (r1,r2) := by first | (rw [hy372]; with_reducible exact H) | (have H2_ := (Option.bind_some _ _).symm.trans H; rw [hy372]; with_reducible exact H2_) | (have H2_ := (Option.bind_some _ _).symm.trans H; with_reducible exact H2_) | with_reducible exact H | (rw [hy372]; exact H) | exact H
               have Ny372 := Zc.mk hy372; clear hy372; have H' := Zc.mk H; clear H
               go_wp2_with (first | ((with_reducible refine Z1 (f := 54) rfl ?_); refine ZQ (some 52) rfl rfl Try.func54 (by kernel_rfl) rfl #[.slice A1 l1.length c1,.int .i64 a2,.int .i64 (wrap64 (a3 + x42_2))] rfl (by (try simp only [List.map_toArray,List.map_cons,List.map_nil]); first | done | rfl | (simp only [List.length_drop,List.length_take]; rfl)) ?_; (with_reducible refine (Xw.calls _ _ l1 a2 (wrap64 (a3 + x42_2)) t370 _ ?side1 ?side2 A21.out).mono ?_); (case side1 => repeat (first | exact (Kd.ZO HR1.out HB.out) | (with_reducible refine Kd.ZA ?_ _) | (with_reducible refine Kd.Z9 ?_ _) | (with_reducible refine Kd.ZI ?_))); (case side2 => exact HC1.out); rintro e w24 ⟨rfl,hb⟩; refine ⟨_,rfl,?_⟩; have n0_ := Zc.mk (Kd.Xl (by (with_reducible repeat (first | apply Kd.Zl | apply Kd.Zk | apply Kd.Zs)); exact HO_13.out) hb); have n1_ := Zc.mk (Z3 (by repeat (first | (with_reducible first | exact HB.out | apply Zd | apply Za | apply Zb) | exact HB.out)) hb); clear HO_13; clear HB; have HO_13 := n0_; have HB := n1_; clear n0_ n1_; (try clear hb); (try clear hb2); (try clear hk); (try clear hi)) | ((with_reducible refine Z1 (f := 57) rfl ?_); refine ZQ (some 53) rfl rfl Try.func57 (by kernel_rfl) rfl #[.slice A0 l0.length c0,.int .i64 t370] rfl (by (try simp only [List.map_toArray,List.map_cons,List.map_nil]); first | done | rfl | (simp only [List.length_drop,List.length_take]; rfl)) ?_; (with_reducible refine (XB.calls _ _ l0 t370 t371 _ ?side1 ?side2 A22.out).mono ?_); (case side1 => repeat (first | exact (Kd.ZO HR0.out HB.out) | (with_reducible refine Kd.ZA ?_ _) | (with_reducible refine Kd.Z9 ?_ _) | (with_reducible refine Kd.ZI ?_))); (case side2 => exact HC0.out); rintro e w25 ⟨rfl,hb⟩; refine ⟨_,rfl,?_⟩; have n0_ := Zc.mk (Kd.Xl (by (with_reducible repeat (first | apply Kd.Zl | apply Kd.Zk | apply Kd.Zs)); exact HO_13.out) hb); have n1_ := Zc.mk (Z3 (by repeat (first | (with_reducible first | exact HB.out | apply Zd | apply Za | apply Zb) | exact HB.out)) hb); clear HO_13; clear HB; have HO_13 := n0_; have HB := n1_; clear n0_ n1_; (try clear hb); (try clear hb2); (try clear hk); (try clear hi)) | ((with_reducible refine X8 (b := .append) (xs := #[.tmp 45,.tmp 54]) rfl ?_); at_builtin; refine Kd.XY (Kd.int .i64) (w0 := w) w.heap.size rfl (.tmp 45) (.tmp 54) 46 3 (.int .i64 0) 8 rfl Try.underlying46 info3 rfl (by decide) (by omega) u13 x13_2 t371 [.int .i64 t371] (fun _ => True) (fun _ => False) rfl rfl ?aP (fun _ hk => hk.elim) ?aF ?aO ?aB ?aS ?aL ?_; (case aP => exact rfl); (case aB => exact (by repeat (first | (with_reducible first | exact HB.out | apply Zd | apply Za | apply Zb) | exact HB.out))); (case aF => exact (fun _ _ => trivial)); (case aO => exact (by (with_reducible repeat (first | apply Kd.Zl | apply Kd.Zk | apply Kd.Zs)); exact HO_13.out)); (case aS => exact (ZH (by repeat (first | (with_reducible first | exact HB.out | apply Zd | apply Za | apply Zb) | exact HB.out)))); (case aL => have := LMc23.out; omega); intro v373 w26 ho hb hg hat; rw [← Ny372.out] at ho; have n0_ := Zc.mk (hb); have n1_ := Zc.mk (ho); clear HB; clear HO_13; have HB := n0_; have HO374 := n1_; clear n0_ n1_; clear ho hb hg hat))
               go_roundg k2
               case measure => have := HJ9.out; have := HK2.out; omega
               case rel => exact ⟨(y372),(wrap64 (x42_2 + 1)),(by first | rfl | (simp; done) | (simp [*]; done)),H',⟨by have := HJ9.out; have := HK2.out; omega⟩,⟨by (with_reducible repeat (first | apply Kd.Zl | apply Kd.Zk | apply Kd.Zs)); exact HO374.out⟩,⟨by repeat (first | (with_reducible first | exact HB.out | apply Zd | apply Za | apply Zb) | exact HB.out)⟩⟩
             · rw [if_neg c23] at H
               exact absurd H (by simp)
           · rw [if_neg c20] at H
             have c20b0 : decide (x42_2 < a4) = false := decide_eq_false c20; clear c20; simp only [Option.some.injEq,Prod.mk.injEq] at H; obtain ⟨rfl,rfl⟩ := H
             go_wp2
             go_ret2
             exact ⟨_,by first | rfl | (simp [Zv,Zu] <;> rfl) | (simp [*,Zv,Zu] <;> rfl),by (with_reducible repeat (first | apply Kd.Zl | apply Kd.Zk | apply Kd.Zs)); exact HO_13.out,by repeat (first | (with_reducible first | exact HB.out | apply Zd | apply Za | apply Zb) | exact HB.out)⟩
   · rw [if_neg c9] at H
     have c9b0 : (t368 == 0) = false := beq_eq_false_iff_ne.mpr c9; have c9b1 : (t368 != 0) = true := bne_iff_ne.mpr c9; simp only [Option.some.injEq,Prod.mk.injEq] at H; obtain ⟨rfl,rfl⟩ := H
     go_enter Try.func32,Try.ntmps32
     go_wp2_with (first | ((with_reducible refine Z1 (f := 36) rfl ?_); refine ZQ (some 16) rfl rfl Try.func36 (by kernel_rfl) rfl #[.slice A0 l0.length c0] rfl (by (try simp only [List.map_toArray,List.map_cons,List.map_nil]); first | done | rfl | (simp only [List.length_drop,List.length_take]; rfl)) ?_; (with_reducible refine (Zm.calls k _ _ l0 true _ ?side1 ?side2 A6.out).mono ?_); (case side1 => repeat (first | exact HR0.out | (with_reducible refine Kd.ZA ?_ _) | (with_reducible refine Kd.Z9 ?_ _) | (with_reducible refine Kd.ZI ?_))); (case side2 => exact HC0.out); rintro e w27 ⟨rfl,hb⟩; refine ⟨_,rfl,?_⟩; have n0_ := Zc.mk (Z3 (by repeat (first | (with_reducible first | exact HB.out | apply Zd | apply Za | apply Zb) | exact HB.out)) hb); clear HB; have HB := n0_; clear n0_; (try clear hb); (try clear hb2); (try clear hk); (try clear hi)) | ((with_reducible refine Xr (N := 21) rfl ?_); refine Kd.R_lit (Kd.int .i64) _ 3 ?hg (N := 21) ?hd (xs := ([a2,a3] : List Int)) (inner := [.int .i64 a2,.int .i64 a3]) (ok := fun _ => True) (okp := fun _ => True) ?hr ?hp (fun _ hk => hk) trivial (Below.refl _ _) (Nat.le_refl _) (by simp) ?_; (case hd => rfl); (case hg => rfl); (case hr => first | (go_simp; done) | (go_simp; rfl)); (case hp => exact (Reps.one (show Kd.M (Kd.int .i64) _ _ _ a2 [.int .i64 a2] from rfl) (Reps.one (show Kd.M (Kd.int .i64) _ _ _ a3 [.int .i64 a3] from rfl) (Reps.none _ _)))); intro v366 w28 ho29 hb hg_ hnew_; clear hg_ hnew_; (first | rw [← Ny365.out] at ho29 | (simp only [Int.reduceToNat] at ho29; rw [← Ny365.out] at ho29)); have n0_ := Zc.mk (Kd.Xs ho29 (ZH (by repeat (first | (with_reducible first | exact HB.out | apply Zd | apply Za | apply Zb) | exact HB.out)))); have n1_ := Zc.mk (Z3 (by repeat (first | (with_reducible first | exact HB.out | apply Zd | apply Za | apply Zb) | exact HB.out)) hb); clear HB; have HO367 := n0_; have HB := n1_; clear n0_ n1_; clear hb ho29; obtain ⟨Ao30,co30,eo30⟩ := Kd.Xd HO367.out; subst eo30) | ((with_reducible refine Z1 (f := 40) rfl ?_); refine ZQ (some 22) rfl rfl Try.func40 (by kernel_rfl) rfl #[.slice A1 l1.length c1,.slice Ao30 y365.length co30] rfl (by (try simp only [List.map_toArray,List.map_cons,List.map_nil]); first | done | rfl | (simp only [List.length_drop,List.length_take]; rfl)) ?_; (with_reducible refine (ZP.calls k _ _ l1 _ _ y365 t368 _ ?side1 ?side2 ?side3 ?side4 A8.out).mono ?_); (case side1 => repeat (first | exact (Kd.ZO HR1.out HB.out) | (with_reducible refine Kd.ZA ?_ _) | (with_reducible refine Kd.Z9 ?_ _) | (with_reducible refine Kd.ZI ?_))); (case side2 => exact HC1.out); (case side3 => repeat (first | exact (Kd.ZL HO367.out).2.2 | (with_reducible refine Kd.ZA ?_ _) | (with_reducible refine Kd.Z9 ?_ _) | (with_reducible refine Kd.ZI ?_))); (case side4 => exact (Kd.ZL HO367.out).2.1); rintro e w31 ⟨rfl,hb⟩; refine ⟨_,rfl,?_⟩; have n0_ := Zc.mk (Kd.Xl (by (with_reducible repeat (first | apply Kd.Zl | apply Kd.Zk | apply Kd.Zs)); exact HO367.out) hb); have n1_ := Zc.mk (Z3 (by repeat (first | (with_reducible first | exact HB.out | apply Zd | apply Za | apply Zb) | exact HB.out)) hb); clear HO367; clear HB; have HO367 := n0_; have HB := n1_; clear n0_ n1_; (try clear hb); (try clear hb2); (try clear hk); (try clear hi)))
     go_ret2
     exact ⟨_,by first | rfl | (simp [Zv,Zu] <;> rfl) | (simp [*,Zv,Zu] <;> rfl),by first | exact Kd.R_nil _ _ _ _ _ | exact Kd.N_nil _ _ _ _ _ | exact Kd.V_nil _ _ _ _ _ | exact Kd.Q_nil _ _ _ _ _ | exact Kd.S_nil _ _ _ _ _,by repeat (first | (with_reducible first | exact HB.out | apply Zd | apply Za | apply Zb) | exact HB.out)⟩
 · replace c7 := Bool.eq_false_iff.mpr c7
   subst c7
   have H1 : (some (([] : List Int),1)) = some (r1,r2) := by rw [if_neg (show ¬ (false = true) by decide)] at H; exact H
   clear H; have H := H1; clear H1; simp only [Option.some.injEq,Prod.mk.injEq] at H; obtain ⟨rfl,rfl⟩ := H
   go_enter Try.func32,Try.ntmps32
   go_wp2_with (first | ((with_reducible refine Z1 (f := 36) rfl ?_); refine ZQ (some 16) rfl rfl Try.func36 (by kernel_rfl) rfl #[.slice A0 l0.length c0] rfl (by (try simp only [List.map_toArray,List.map_cons,List.map_nil]); first | done | rfl | (simp only [List.length_drop,List.length_take]; rfl)) ?_; (with_reducible refine (Zm.calls k _ _ l0 false _ ?side1 ?side2 A6.out).mono ?_); (case side1 => repeat (first | exact HR0.out | (with_reducible refine Kd.ZA ?_ _) | (with_reducible refine Kd.Z9 ?_ _) | (with_reducible refine Kd.ZI ?_))); (case side2 => exact HC0.out); rintro e w32 ⟨rfl,hb⟩; refine ⟨_,rfl,?_⟩; have n0_ := Zc.mk (Z3 (by repeat (first | (with_reducible first | exact HB.out | apply Zd | apply Za | apply Zb) | exact HB.out)) hb); clear HB; have HB := n0_; clear n0_; (try clear hb); (try clear hb2); (try clear hk); (try clear hi)))
   go_ret2
   exact ⟨_,by first | rfl | (simp [Zv,Zu] <;> rfl) | (simp [*,Zv,Zu] <;> rfl),by first | exact Kd.R_nil _ _ _ _ _ | exact Kd.N_nil _ _ _ _ _ | exact Kd.V_nil _ _ _ _ _ | exact Kd.Q_nil _ _ _ _ _ | exact Kd.S_nil _ _ _ _ _,by repeat (first | (with_reducible first | exact HB.out | apply Zd | apply Za | apply Zb) | exact HB.out)⟩
end Go.Proofs.Ytomlfbmfdoallaa.PA

namespace Go.Proofs.Ytomlfbmfdoallaa.PA
open Go.RowKit Go.Proofs.YtomlfbmfdoallaaW.PrintWords Go.Proofs.YtomlfbmfdoallaaW.PrintLast Go.Proofs.YtomlfbmfdoallaaW.PrintMore
attribute [local go_sem] Xf Xg Xo Xn Xa ZZ Xh Xi
set_option linter.unusedVariables false
set_option linter.unusedSimpArgs false
mutual
def Zq.l0 : Nat → List (S56) → Int → Option (Bool)
 | 0,_,_ => none
 | k + 1,x0,x3 => if x3 < (x0.length : Int) then (if 0 ≤ x3 then (if ((Zg x0 x3).f0) < 0 then (Zq.j1 k x0 x3 true ((Zg x0 x3).f0) ((Zg x0 x3).f1) ((Zg x0 x3).f2)) else (if ((Zg x0 x3).f0) > 1000000000 then (Zq.j1 k x0 x3 true ((Zg x0 x3).f0) ((Zg x0 x3).f1) ((Zg x0 x3).f2)) else (if x3 > 0 then (if 0 ≤ (wrap64 (x3 - 1)) then (if (wrap64 (x3 - 1)) < (x0.length : Int) then (if ((Zg x0 x3).f0) ≤ ((Zg x0 (wrap64 (x3 - 1))).f0) then (Zq.j1 k x0 x3 true ((Zg x0 x3).f0) ((Zg x0 x3).f1) ((Zg x0 x3).f2)) else (if ((Zg x0 x3).f1) < (-8388607) then (Zq.j1 k x0 x3 true ((Zg x0 x3).f0) ((Zg x0 x3).f1) ((Zg x0 x3).f2)) else (if ((Zg x0 x3).f1) > 8388607 then (Zq.j1 k x0 x3 true ((Zg x0 x3).f0) ((Zg x0 x3).f1) ((Zg x0 x3).f2)) else (if ((Zg x0 x3).f2) < 0 then (Zq.j1 k x0 x3 true ((Zg x0 x3).f0) ((Zg x0 x3).f1) ((Zg x0 x3).f2)) else (Zq.j1 k x0 x3 (decide (((Zg x0 x3).f2) > 2)) ((Zg x0 x3).f0) ((Zg x0 x3).f1) ((Zg x0 x3).f2)))))) else (none)) else (none)) else (if ((Zg x0 x3).f1) < (-8388607) then (Zq.j1 k x0 x3 true ((Zg x0 x3).f0) ((Zg x0 x3).f1) ((Zg x0 x3).f2)) else (if ((Zg x0 x3).f1) > 8388607 then (Zq.j1 k x0 x3 true ((Zg x0 x3).f0) ((Zg x0 x3).f1) ((Zg x0 x3).f2)) else (if ((Zg x0 x3).f2) < 0 then (Zq.j1 k x0 x3 true ((Zg x0 x3).f0) ((Zg x0 x3).f1) ((Zg x0 x3).f2)) else (Zq.j1 k x0 x3 (decide (((Zg x0 x3).f2) > 2)) ((Zg x0 x3).f0) ((Zg x0 x3).f1) ((Zg x0 x3).f2)))))))) else (none)) else (if (x0.length : Int) ≥ 1 then (some (decide ((x0.length : Int) ≤ 100))) else (some false))
def Zq.j1 : Nat → List (S56) → Int → Bool → Int → Int → Int → Option (Bool)
 | 0,_,_,_,_,_,_ => none
 | k + 1,x0,x3,x57,x377000,x377001,x377002 => if x57 = true then (some false) else (if x377002 = 2 then (if (wrap64 (x3 + 1)) < (x0.length : Int) then (if 0 ≤ (wrap64 (x3 + 1)) then (if (wrap64 (((Zg x0 (wrap64 (x3 + 1))).f0) - x377000)) > 1000 then (some false) else (Zq.l0 k x0 (wrap64 (x3 + 1)))) else (none)) else (Zq.l0 k x0 (wrap64 (x3 + 1)))) else (Zq.l0 k x0 (wrap64 (x3 + 1))))
end
def Zq.f (k : Nat) (l0 : List (S56)) : Option (Bool) := Zq.l0 k l0 0
theorem Zq.Xq : ∀ k,(∀ y0 y1,LeO (Zq.l0 k y0 y1) (Zq.l0 (k + 1) y0 y1)) ∧ (∀ y0 y1 y2 y3 y4 y5,LeO (Zq.j1 k y0 y1 y2 y3 y4 y5) (Zq.j1 (k + 1) y0 y1 y2 y3 y4 y5))
 | 0 => ⟨fun _ _ r h => by simp [Zq.l0] at h,fun _ _ _ _ _ _ r h => by simp [Zq.j1] at h⟩
 | k + 1 => by
  obtain ⟨ih0,ih1⟩ := Zq.Xq k; refine ⟨?_,?_⟩
  · intro y0 y1
    unfold Zq.l0
    repeat' first
    | (with_reducible exact ih0 _ _)
    | (with_reducible exact ih1 _ _ _ _ _ _)
    | (with_reducible exact LeO.refl _)
    | (with_reducible exact LeO.none _)
    | (with_reducible refine LeO.ite ?_ ?_)
    | (with_reducible refine LeO.bind ?_ (fun _ => ?_))
    | exact ih0 _ _
    | exact ih1 _ _ _ _ _ _
    | exact LeO.none _
    | refine LeO.ite ?_ ?_
    | refine LeO.bind ?_ (fun _ => ?_)
  · intro y0 y1 y2 y3 y4 y5
    unfold Zq.j1
    repeat' first
    | (with_reducible exact ih0 _ _)
    | (with_reducible exact ih1 _ _ _ _ _ _)
    | (with_reducible exact LeO.refl _)
    | (with_reducible exact LeO.none _)
    | (with_reducible refine LeO.ite ?_ ?_)
    | (with_reducible refine LeO.bind ?_ (fun _ => ?_))
    | exact ih0 _ _
    | exact ih1 _ _ _ _ _ _
    | exact LeO.none _
    | refine LeO.ite ?_ ?_
    | refine LeO.bind ?_ (fun _ => ?_)
theorem Zq.mono : ∀ a0 k,LeO (Zq.f k a0) (Zq.f (k + 1) a0) := by
 intro a0 k; obtain ⟨ih0,ih1⟩ := Zq.Xq k; unfold Zq.f
 repeat' first
  | (with_reducible exact ih0 _ _)
  | (with_reducible exact ih1 _ _ _ _ _ _)
  | (with_reducible exact LeO.refl _)
  | (with_reducible exact LeO.none _)
  | (with_reducible refine LeO.ite ?_ ?_)
  | (with_reducible refine LeO.bind ?_ (fun _ => ?_))
  | exact ih0 _ _
  | exact ih1 _ _ _ _ _ _
  | exact LeO.none _
  | refine LeO.ite ?_ ?_
  | refine LeO.bind ?_ (fun _ => ?_)
set_option maxHeartbeats 8000000 in
set_option maxRecDepth 100000 in
theorem Zq.calls (k : Nat) (A0 : Option Addr) (c0 : Nat) (l0 : List (S56)) (r : Bool) (w : World) (hr0 : Kd.C k56 w A0 l0.length l0) (hc0 : l0.length ≤ c0) (h : Zq.f k l0 = some r) :
 Calls Try.prog 37 #[.slice A0 l0.length c0] w fun e w' => e = .returned (.bool r) ∧ Below w.heap.size w w' := by
 have hu56 := Try.underlying56; have HR0 := Zc.mk hr0; have HC0 := Zc.mk hc0; clear hr0 hc0; have HB := Zc.mk (Below.refl w.heap.size w); have H : (Zq.l0 k l0 0) = some r := h; clear h; have H' := Zc.mk H; clear H
 go_enter Try.func37,Try.ntmps37
 go_wp2
 repeat (go_quiet (fail); try go_wp2)
 go_loopg [3] k (fun kq v3 w' => ∃ (x3_1 : Int),v3 = .int .i64 x3_1 ∧ Zc (Zq.l0 kq l0 x3_1 = some r) ∧ Zc (kq ≤ k) ∧ Zc (Below w.heap.size w w'))
 case atStart => exact ⟨(0),(by first | rfl | (simp; done) | (simp [*]; done)),H',⟨Nat.le_refl _⟩,⟨by repeat (first | (with_reducible first | exact HB.out | apply Zd | apply Za | apply Zb) | exact HB.out)⟩⟩
 case round =>
  clear H'; obtain ⟨x3_1,rfl,HA,HK1,HB⟩ := hrel
  cases gk with
  | zero => exact absurd HA.out (by simp [Zq.l0])
  | succ k1 =>
   have H := HA.out; clear HA; simp only [Zq.l0] at H
   by_cases c2 : x3_1 < (l0.length : Int)
   · rw [if_pos c2] at H
     have c2b0 : decide (x3_1 < (l0.length : Int)) = true := decide_eq_true c2; clear c2
     by_cases c3 : 0 ≤ x3_1
     · rw [if_pos c3] at H
       have c3b0 : decide (0 ≤ x3_1) = true := decide_eq_true c3; clear c3; have HC4 := Zc.mk H; clear H; have p375 : 0 ≤ (x3_1 : Int) := of_decide_eq_true (by first | (with_reducible assumption) | assumption); have q375 : x3_1 < (l0.length : Int) := of_decide_eq_true (by first | (with_reducible assumption) | assumption); obtain ⟨ad375,e375,hx375_0,hx375_1,hx375_2⟩ := Xx HR0.out x3_1 p375 q375
       cases e375
       replace hx375_0 := (HB.out.cell (World.block_lt_of_cell? w _ hx375_0)).trans hx375_0; replace hx375_1 := (HB.out.cell (World.block_lt_of_cell? w _ hx375_1)).trans hx375_1; replace hx375_2 := (HB.out.cell (World.block_lt_of_cell? w _ hx375_2)).trans hx375_2; replace p375 := eq_true p375; replace q375 := eq_true q375
       go_upto_region 5 with (first | ((with_reducible refine Xr (N := 4) rfl ?_); (try (refine XD (by rfl) ?_; dsimp only)); refine X2 ?hg (N := 4) ?hd (cs := #[.int .i64 0,.int .i64 0,.int .i64 0]) (t := 56) ?hr ?_; (case hd => rfl); (case hg => rfl); (case hr => first | (go_simp; done) | (go_simp; rfl)); intro gb376 hg w5 hbox hb; have n0_ := Zc.mk (Z3 (by repeat (first | (with_reducible first | exact HB.out | apply Zd | apply Za | apply Zb) | exact HB.out)) hb); have n1_ := Zc.mk (hbox); have n2_ := Zc.mk ((by rw [hg]; exact (ZH (by repeat (first | (with_reducible first | exact HB.out | apply Zd | apply Za | apply Zb) | exact HB.out))) : w.heap.size ≤ gb376)); have n3_ := Zc.mk ((by rw [hg]; exact (ZH (by repeat (first | (with_reducible first | exact HB.out | apply Zd | apply Za | apply Zb) | exact HB.out))) : w.heap.size ≤ gb376)); clear HB; have HB := n0_; have BK376 := n1_; have GW376 := n2_; have GE376 := n3_; clear n0_ n1_ n2_ n3_; clear hb hbox hg; have hcz6_0 : w5.cell? ⟨gb376,0,none⟩ = some (.int .i64 0) := (Zn BK376.out 0).trans rfl; have hcz6_1 : w5.cell? ⟨gb376,1,none⟩ = some (.int .i64 0) := (Zn BK376.out 1).trans rfl; have hcz6_2 : w5.cell? ⟨gb376,2,none⟩ = some (.int .i64 0) := (Zn BK376.out 2).trans rfl; have hfz6_0 := Zz BK376.out 0; have hfz6_1 := Zz BK376.out 1; have hfz6_2 := Zz BK376.out 2))
       repeat (go_quiet (first | ((with_reducible refine Xr (N := 4) rfl ?_); (try (refine XD (by rfl) ?_; dsimp only)); refine X2 ?hg (N := 4) ?hd (cs := #[.int .i64 0,.int .i64 0,.int .i64 0]) (t := 56) ?hr ?_; (case hd => rfl); (case hg => rfl); (case hr => first | (go_simp; done) | (go_simp; rfl)); intro gb376 hg w5 hbox hb; have n0_ := Zc.mk (Z3 (by repeat (first | (with_reducible first | exact HB.out | apply Zd | apply Za | apply Zb) | exact HB.out)) hb); have n1_ := Zc.mk (hbox); have n2_ := Zc.mk ((by rw [hg]; exact (ZH (by repeat (first | (with_reducible first | exact HB.out | apply Zd | apply Za | apply Zb) | exact HB.out))) : w.heap.size ≤ gb376)); have n3_ := Zc.mk ((by rw [hg]; exact (ZH (by repeat (first | (with_reducible first | exact HB.out | apply Zd | apply Za | apply Zb) | exact HB.out))) : w.heap.size ≤ gb376)); clear HB; have HB := n0_; have BK376 := n1_; have GW376 := n2_; have GE376 := n3_; clear n0_ n1_ n2_ n3_; clear hb hbox hg; have hcz6_0 : w5.cell? ⟨gb376,0,none⟩ = some (.int .i64 0) := (Zn BK376.out 0).trans rfl; have hcz6_1 : w5.cell? ⟨gb376,1,none⟩ = some (.int .i64 0) := (Zn BK376.out 1).trans rfl; have hcz6_2 : w5.cell? ⟨gb376,2,none⟩ = some (.int .i64 0) := (Zn BK376.out 2).trans rfl; have hfz6_0 := Zz BK376.out 0; have hfz6_1 := Zz BK376.out 1; have hfz6_2 := Zz BK376.out 2)); go_upto_region 5 with (first | ((with_reducible refine Xr (N := 4) rfl ?_); (try (refine XD (by rfl) ?_; dsimp only)); refine X2 ?hg (N := 4) ?hd (cs := #[.int .i64 0,.int .i64 0,.int .i64 0]) (t := 56) ?hr ?_; (case hd => rfl); (case hg => rfl); (case hr => first | (go_simp; done) | (go_simp; rfl)); intro gb376 hg w5 hbox hb; have n0_ := Zc.mk (Z3 (by repeat (first | (with_reducible first | exact HB.out | apply Zd | apply Za | apply Zb) | exact HB.out)) hb); have n1_ := Zc.mk (hbox); have n2_ := Zc.mk ((by rw [hg]; exact (ZH (by repeat (first | (with_reducible first | exact HB.out | apply Zd | apply Za | apply Zb) | exact HB.out))) : w.heap.size ≤ gb376)); have n3_ := Zc.mk ((by rw [hg]; exact (ZH (by repeat (first | (with_reducible first | exact HB.out | apply Zd | apply Za | apply Zb) | exact HB.out))) : w.heap.size ≤ gb376)); clear HB; have HB := n0_; have BK376 := n1_; have GW376 := n2_; have GE376 := n3_; clear n0_ n1_ n2_ n3_; clear hb hbox hg; have hcz6_0 : w5.cell? ⟨gb376,0,none⟩ = some (.int .i64 0) := (Zn BK376.out 0).trans rfl; have hcz6_1 : w5.cell? ⟨gb376,1,none⟩ = some (.int .i64 0) := (Zn BK376.out 1).trans rfl; have hcz6_2 : w5.cell? ⟨gb376,2,none⟩ = some (.int .i64 0) := (Zn BK376.out 2).trans rfl; have hfz6_0 := Zz BK376.out 0; have hfz6_1 := Zz BK376.out 1; have hfz6_2 := Zz BK376.out 2)))
       (try simp only [Act.put,YD,YE,YF])
       go_cut [57] (fun v57 wc => ∃ (kq : Nat) (x57_3 : Bool),v57 = .bool x57_3 ∧ Zc (Zq.j1 kq l0 x3_1 x57_3 ((Zg l0 x3_1).f0) ((Zg l0 x3_1).f1) ((Zg l0 x3_1).f2) = some r) ∧ Zc (kq ≤ k1) ∧ Zc (wc.heap[gb376]? = some (.cells #[.int .i64 ((Zg l0 x3_1).f0),.int .i64 ((Zg l0 x3_1).f1),.int .i64 ((Zg l0 x3_1).f2)] 56 (0,0))) ∧ Zc (Below w.heap.size w wc))
       case first =>
        have H := HC4.out; clear HC4
        by_cases c7 : ((Zg l0 x3_1).f0) < 0
        · rw [if_pos c7] at H
          have c7b0 : decide (((Zg l0 x3_1).f0) < 0) = true := decide_eq_true c7; clear c7
          (first | rw [c7b0] | (simp only [i64_w,i32_w]; rw [c7b0]) | skip)
          have H' := Zc.mk H; clear H; have hcz8_0 : w5.cell? ⟨gb376,0,none⟩ = some (.int .i64 0) := (Zn BK376.out 0).trans rfl; have hcz8_1 : w5.cell? ⟨gb376,1,none⟩ = some (.int .i64 0) := (Zn BK376.out 1).trans rfl; have hcz8_2 : w5.cell? ⟨gb376,2,none⟩ = some (.int .i64 0) := (Zn BK376.out 2).trans rfl; have hfz8_0 := Zz BK376.out 0; have hfz8_1 := Zz BK376.out 1; have hfz8_2 := Zz BK376.out 2
          go_wp2
          repeat (go_quiet (fail); try go_wp2)
          go_meet
          case rel => exact ⟨_,(true),(by first | rfl | (simp; done) | (simp [*]; done)),H',⟨by have := HK1.out; first | omega | exact Nat.le_refl _⟩,⟨by (with_reducible repeat (first | refine Zy ?_ _ | refine Z0 ?_ | refine Zx ?_ _)); refine ZJ (cs := #[.int .i64 ((Zg l0 x3_1).f0),.int .i64 ((Zg l0 x3_1).f1),.int .i64 0]) ?_ 2 _ rfl; (with_reducible repeat (first | refine Zy ?_ _ | refine Z0 ?_ | refine Zx ?_ _)); refine ZJ (cs := #[.int .i64 ((Zg l0 x3_1).f0),.int .i64 0,.int .i64 0]) ?_ 1 _ rfl; (with_reducible repeat (first | refine Zy ?_ _ | refine Z0 ?_ | refine Zx ?_ _)); refine ZJ (cs := #[.int .i64 0,.int .i64 0,.int .i64 0]) ?_ 0 _ rfl; (with_reducible repeat (first | refine Zy ?_ _ | refine Z0 ?_ | refine Zx ?_ _)); exact BK376.out⟩,⟨by repeat (first | (with_reducible first | exact HB.out | apply Zd | apply Za | apply Zb | refine ZK ?_ GE376.out) | exact HB.out)⟩⟩
        · rw [if_neg c7] at H
          have c7b0 : decide (((Zg l0 x3_1).f0) < 0) = false := decide_eq_false c7; clear c7
          (first | rw [c7b0] | (simp only [i64_w,i32_w]; rw [c7b0]) | skip)
          by_cases c9 : ((Zg l0 x3_1).f0) > 1000000000
          · rw [if_pos c9] at H
            have c9b0 : decide (1000000000 < ((Zg l0 x3_1).f0)) = true := decide_eq_true c9; clear c9; have H' := Zc.mk H; clear H; have hcz10_0 : w5.cell? ⟨gb376,0,none⟩ = some (.int .i64 0) := (Zn BK376.out 0).trans rfl; have hcz10_1 : w5.cell? ⟨gb376,1,none⟩ = some (.int .i64 0) := (Zn BK376.out 1).trans rfl; have hcz10_2 : w5.cell? ⟨gb376,2,none⟩ = some (.int .i64 0) := (Zn BK376.out 2).trans rfl; have hfz10_0 := Zz BK376.out 0; have hfz10_1 := Zz BK376.out 1; have hfz10_2 := Zz BK376.out 2
            go_wp2
            repeat (go_quiet (fail); try go_wp2)
            go_meet
            case rel => exact ⟨_,(true),(by first | rfl | (simp; done) | (simp [*]; done)),H',⟨by have := HK1.out; first | omega | exact Nat.le_refl _⟩,⟨by (with_reducible repeat (first | refine Zy ?_ _ | refine Z0 ?_ | refine Zx ?_ _)); refine ZJ (cs := #[.int .i64 ((Zg l0 x3_1).f0),.int .i64 ((Zg l0 x3_1).f1),.int .i64 0]) ?_ 2 _ rfl; (with_reducible repeat (first | refine Zy ?_ _ | refine Z0 ?_ | refine Zx ?_ _)); refine ZJ (cs := #[.int .i64 ((Zg l0 x3_1).f0),.int .i64 0,.int .i64 0]) ?_ 1 _ rfl; (with_reducible repeat (first | refine Zy ?_ _ | refine Z0 ?_ | refine Zx ?_ _)); refine ZJ (cs := #[.int .i64 0,.int .i64 0,.int .i64 0]) ?_ 0 _ rfl; (with_reducible repeat (first | refine Zy ?_ _ | refine Z0 ?_ | refine Zx ?_ _)); exact BK376.out⟩,⟨by repeat (first | (with_reducible first | exact HB.out | apply Zd | apply Za | apply Zb | refine ZK ?_ GE376.out) | exact HB.out)⟩⟩
          · rw [if_neg c9] at H
            have c9b0 : decide (1000000000 < ((Zg l0 x3_1).f0)) = false := decide_eq_false c9; clear c9
            by_cases c11 : x3_1 > 0
            · rw [if_pos c11] at H
              have c11b0 : decide (0 < x3_1) = true := decide_eq_true c11; clear c11
              obtain ⟨ji12,hji12⟩ : ∃ j_ : Int,(wrap64 (x3_1 - 1)) = j_ := ⟨_,rfl⟩
              replace H : (if 0 ≤ (ji12) then (if (ji12) < (l0.length : Int) then (if ((Zg l0 x3_1).f0) ≤ ((Zg l0 (ji12)).f0) then (Zq.j1 k1 l0 x3_1 true ((Zg l0 x3_1).f0) ((Zg l0 x3_1).f1) ((Zg l0 x3_1).f2)) else (if ((Zg l0 x3_1).f1) < (-8388607) then (Zq.j1 k1 l0 x3_1 true ((Zg l0 x3_1).f0) ((Zg l0 x3_1).f1) ((Zg l0 x3_1).f2)) else (if ((Zg l0 x3_1).f1) > 8388607 then (Zq.j1 k1 l0 x3_1 true ((Zg l0 x3_1).f0) ((Zg l0 x3_1).f1) ((Zg l0 x3_1).f2)) else (if ((Zg l0 x3_1).f2) < 0 then (Zq.j1 k1 l0 x3_1 true ((Zg l0 x3_1).f0) ((Zg l0 x3_1).f1) ((Zg l0 x3_1).f2)) else (Zq.j1 k1 l0 x3_1 (decide (((Zg l0 x3_1).f2) > 2)) ((Zg l0 x3_1).f0) ((Zg l0 x3_1).f1) ((Zg l0 x3_1).f2)))))) else (none)) else (none)) = some r := by first | (rw [hji12] at H; exact H) | (simp only [hji12] at H ⊢; exact H)
              have hji12w : (IntKind.i64.wrap (x3_1 - 1)) = ji12 := (i64_w _).trans hji12
              by_cases c13 : 0 ≤ (ji12)
              · rw [if_pos c13] at H
                have c13b0 : decide (0 ≤ (ji12)) = true := decide_eq_true c13; clear c13
                by_cases c14 : (ji12) < (l0.length : Int)
                · rw [if_pos c14] at H
                  have c14b0 : decide ((ji12) < (l0.length : Int)) = true := decide_eq_true c14; clear c14
                  by_cases c15 : ((Zg l0 x3_1).f0) ≤ ((Zg l0 (ji12)).f0)
                  · rw [if_pos c15] at H
                    have c15b0 : decide (((Zg l0 x3_1).f0) ≤ ((Zg l0 (ji12)).f0)) = true := decide_eq_true c15; clear c15; have H' := Zc.mk H; clear H; have hcz16_0 : w5.cell? ⟨gb376,0,none⟩ = some (.int .i64 0) := (Zn BK376.out 0).trans rfl; have hcz16_1 : w5.cell? ⟨gb376,1,none⟩ = some (.int .i64 0) := (Zn BK376.out 1).trans rfl; have hcz16_2 : w5.cell? ⟨gb376,2,none⟩ = some (.int .i64 0) := (Zn BK376.out 2).trans rfl; have hfz16_0 := Zz BK376.out 0; have hfz16_1 := Zz BK376.out 1; have hfz16_2 := Zz BK376.out 2; have p377 : 0 ≤ ((ji12) : Int) := of_decide_eq_true (by first | (with_reducible assumption) | assumption); have q377 : (ji12) < (l0.length : Int) := of_decide_eq_true (by first | (with_reducible assumption) | assumption); obtain ⟨ad377,e377,hx377_0,hx377_1,hx377_2⟩ := Xx HR0.out (ji12) p377 q377
                    obtain rfl : ad375 = ad377 := (by injection e377)
                    have hn377_0 : ad375.block ≠ gb376 := Nat.ne_of_lt (Nat.lt_of_lt_of_le (by have := World.block_lt_of_cell? _ _ hx377_0; first | rwa [Zr] at this | exact this) GW376.out); have hn377_1 : ad375.block ≠ gb376 := Nat.ne_of_lt (Nat.lt_of_lt_of_le (by have := World.block_lt_of_cell? _ _ hx377_0; first | rwa [Zr] at this | exact this) GW376.out); have hn377_2 : ad375.block ≠ gb376 := Nat.ne_of_lt (Nat.lt_of_lt_of_le (by have := World.block_lt_of_cell? _ _ hx377_0; first | rwa [Zr] at this | exact this) GW376.out); replace hx377_0 := (HB.out.cell (World.block_lt_of_cell? w _ hx377_0)).trans hx377_0; replace hx377_1 := (HB.out.cell (World.block_lt_of_cell? w _ hx377_1)).trans hx377_1; replace hx377_2 := (HB.out.cell (World.block_lt_of_cell? w _ hx377_2)).trans hx377_2; replace hx377_0 := (ZM (p := ⟨gb376,0,none⟩) (by first | (rw [Zr]; exact hn377_0) | (show (Addr.add _ _).block ≠ _; rw [Zr]; exact hn377_0) | exact hn377_0) (.int .i64 ((Zg l0 x3_1).f0))).trans hx377_0; replace hx377_1 := (ZM (p := ⟨gb376,0,none⟩) (by first | (rw [Zr]; exact hn377_0) | (show (Addr.add _ _).block ≠ _; rw [Zr]; exact hn377_0) | exact hn377_0) (.int .i64 ((Zg l0 x3_1).f0))).trans hx377_1; replace hx377_2 := (ZM (p := ⟨gb376,0,none⟩) (by first | (rw [Zr]; exact hn377_0) | (show (Addr.add _ _).block ≠ _; rw [Zr]; exact hn377_0) | exact hn377_0) (.int .i64 ((Zg l0 x3_1).f0))).trans hx377_2; replace hx377_0 := (ZM (p := ⟨gb376,1,none⟩) (by first | (rw [Zr]; exact hn377_1) | (show (Addr.add _ _).block ≠ _; rw [Zr]; exact hn377_1) | exact hn377_1) (.int .i64 ((Zg l0 x3_1).f1))).trans hx377_0; replace hx377_1 := (ZM (p := ⟨gb376,1,none⟩) (by first | (rw [Zr]; exact hn377_1) | (show (Addr.add _ _).block ≠ _; rw [Zr]; exact hn377_1) | exact hn377_1) (.int .i64 ((Zg l0 x3_1).f1))).trans hx377_1; replace hx377_2 := (ZM (p := ⟨gb376,1,none⟩) (by first | (rw [Zr]; exact hn377_1) | (show (Addr.add _ _).block ≠ _; rw [Zr]; exact hn377_1) | exact hn377_1) (.int .i64 ((Zg l0 x3_1).f1))).trans hx377_2; replace hx377_0 := (ZM (p := ⟨gb376,2,none⟩) (by first | (rw [Zr]; exact hn377_2) | (show (Addr.add _ _).block ≠ _; rw [Zr]; exact hn377_2) | exact hn377_2) (.int .i64 ((Zg l0 x3_1).f2))).trans hx377_0; replace hx377_1 := (ZM (p := ⟨gb376,2,none⟩) (by first | (rw [Zr]; exact hn377_2) | (show (Addr.add _ _).block ≠ _; rw [Zr]; exact hn377_2) | exact hn377_2) (.int .i64 ((Zg l0 x3_1).f2))).trans hx377_1; replace hx377_2 := (ZM (p := ⟨gb376,2,none⟩) (by first | (rw [Zr]; exact hn377_2) | (show (Addr.add _ _).block ≠ _; rw [Zr]; exact hn377_2) | exact hn377_2) (.int .i64 ((Zg l0 x3_1).f2))).trans hx377_2
                    (try have hy377_0 := fun (n_ : Nat) => (show (((((w5.drewN n_).setCell ⟨gb376,0,none⟩ (.int .i64 ((Zg l0 x3_1).f0))).setCell ⟨gb376,1,none⟩ (.int .i64 ((Zg l0 x3_1).f1))).setCell ⟨gb376,2,none⟩ (.int .i64 ((Zg l0 x3_1).f2)))).cell? _ = some _ from hx377_0))
                    (try have hy377_1 := fun (n_ : Nat) => (show (((((w5.drewN n_).setCell ⟨gb376,0,none⟩ (.int .i64 ((Zg l0 x3_1).f0))).setCell ⟨gb376,1,none⟩ (.int .i64 ((Zg l0 x3_1).f1))).setCell ⟨gb376,2,none⟩ (.int .i64 ((Zg l0 x3_1).f2)))).cell? _ = some _ from hx377_1))
                    (try have hy377_2 := fun (n_ : Nat) => (show (((((w5.drewN n_).setCell ⟨gb376,0,none⟩ (.int .i64 ((Zg l0 x3_1).f0))).setCell ⟨gb376,1,none⟩ (.int .i64 ((Zg l0 x3_1).f1))).setCell ⟨gb376,2,none⟩ (.int .i64 ((Zg l0 x3_1).f2)))).cell? _ = some _ from hx377_2))
                    clear hn377_0; clear hn377_1; clear hn377_2; replace p377 := eq_true p377; replace q377 := eq_true q377
                    go_wp2
                    repeat (go_quiet (fail); try go_wp2)
                    go_meet
                    case rel => exact ⟨_,(true),(by first | rfl | (simp; done) | (simp [*]; done)),H',⟨by have := HK1.out; first | omega | exact Nat.le_refl _⟩,⟨by (with_reducible repeat (first | refine Zy ?_ _ | refine Z0 ?_ | refine Zx ?_ _)); refine ZJ (cs := #[.int .i64 ((Zg l0 x3_1).f0),.int .i64 ((Zg l0 x3_1).f1),.int .i64 0]) ?_ 2 _ rfl; (with_reducible repeat (first | refine Zy ?_ _ | refine Z0 ?_ | refine Zx ?_ _)); refine ZJ (cs := #[.int .i64 ((Zg l0 x3_1).f0),.int .i64 0,.int .i64 0]) ?_ 1 _ rfl; (with_reducible repeat (first | refine Zy ?_ _ | refine Z0 ?_ | refine Zx ?_ _)); refine ZJ (cs := #[.int .i64 0,.int .i64 0,.int .i64 0]) ?_ 0 _ rfl; (with_reducible repeat (first | refine Zy ?_ _ | refine Z0 ?_ | refine Zx ?_ _)); exact BK376.out⟩,⟨by repeat (first | (with_reducible first | exact HB.out | apply Zd | apply Za | apply Zb | refine ZK ?_ GE376.out) | exact HB.out)⟩⟩
                  · rw [if_neg c15] at H
                    have c15b0 : decide (((Zg l0 x3_1).f0) ≤ ((Zg l0 (ji12)).f0)) = false := decide_eq_false c15; clear c15
                    by_cases c17 : ((Zg l0 x3_1).f1) < (-8388607)
                    · rw [if_pos c17] at H
                      have c17b0 : decide (((Zg l0 x3_1).f1) < (-8388607)) = true := decide_eq_true c17; clear c17; have H' := Zc.mk H; clear H; have hcz18_0 : w5.cell? ⟨gb376,0,none⟩ = some (.int .i64 0) := (Zn BK376.out 0).trans rfl; have hcz18_1 : w5.cell? ⟨gb376,1,none⟩ = some (.int .i64 0) := (Zn BK376.out 1).trans rfl; have hcz18_2 : w5.cell? ⟨gb376,2,none⟩ = some (.int .i64 0) := (Zn BK376.out 2).trans rfl; have hfz18_0 := Zz BK376.out 0; have hfz18_1 := Zz BK376.out 1; have hfz18_2 := Zz BK376.out 2; have p377 : 0 ≤ ((ji12) : Int) := of_decide_eq_true (by first | (with_reducible assumption) | assumption); have q377 : (ji12) < (l0.length : Int) := of_decide_eq_true (by first | (with_reducible assumption) | assumption); obtain ⟨ad377,e377,hx377_0,hx377_1,hx377_2⟩ := Xx HR0.out (ji12) p377 q377
                      obtain rfl : ad375 = ad377 := (by injection e377)
                      have hn377_0 : ad375.block ≠ gb376 := Nat.ne_of_lt (Nat.lt_of_lt_of_le (by have := World.block_lt_of_cell? _ _ hx377_0; first | rwa [Zr] at this | exact this) GW376.out); have hn377_1 : ad375.block ≠ gb376 := Nat.ne_of_lt (Nat.lt_of_lt_of_le (by have := World.block_lt_of_cell? _ _ hx377_0; first | rwa [Zr] at this | exact this) GW376.out); have hn377_2 : ad375.block ≠ gb376 := Nat.ne_of_lt (Nat.lt_of_lt_of_le (by have := World.block_lt_of_cell? _ _ hx377_0; first | rwa [Zr] at this | exact this) GW376.out); replace hx377_0 := (HB.out.cell (World.block_lt_of_cell? w _ hx377_0)).trans hx377_0; replace hx377_1 := (HB.out.cell (World.block_lt_of_cell? w _ hx377_1)).trans hx377_1; replace hx377_2 := (HB.out.cell (World.block_lt_of_cell? w _ hx377_2)).trans hx377_2; replace hx377_0 := (ZM (p := ⟨gb376,0,none⟩) (by first | (rw [Zr]; exact hn377_0) | (show (Addr.add _ _).block ≠ _; rw [Zr]; exact hn377_0) | exact hn377_0) (.int .i64 ((Zg l0 x3_1).f0))).trans hx377_0; replace hx377_1 := (ZM (p := ⟨gb376,0,none⟩) (by first | (rw [Zr]; exact hn377_0) | (show (Addr.add _ _).block ≠ _; rw [Zr]; exact hn377_0) | exact hn377_0) (.int .i64 ((Zg l0 x3_1).f0))).trans hx377_1; replace hx377_2 := (ZM (p := ⟨gb376,0,none⟩) (by first | (rw [Zr]; exact hn377_0) | (show (Addr.add _ _).block ≠ _; rw [Zr]; exact hn377_0) | exact hn377_0) (.int .i64 ((Zg l0 x3_1).f0))).trans hx377_2; replace hx377_0 := (ZM (p := ⟨gb376,1,none⟩) (by first | (rw [Zr]; exact hn377_1) | (show (Addr.add _ _).block ≠ _; rw [Zr]; exact hn377_1) | exact hn377_1) (.int .i64 ((Zg l0 x3_1).f1))).trans hx377_0; replace hx377_1 := (ZM (p := ⟨gb376,1,none⟩) (by first | (rw [Zr]; exact hn377_1) | (show (Addr.add _ _).block ≠ _; rw [Zr]; exact hn377_1) | exact hn377_1) (.int .i64 ((Zg l0 x3_1).f1))).trans hx377_1; replace hx377_2 := (ZM (p := ⟨gb376,1,none⟩) (by first | (rw [Zr]; exact hn377_1) | (show (Addr.add _ _).block ≠ _; rw [Zr]; exact hn377_1) | exact hn377_1) (.int .i64 ((Zg l0 x3_1).f1))).trans hx377_2; replace hx377_0 := (ZM (p := ⟨gb376,2,none⟩) (by first | (rw [Zr]; exact hn377_2) | (show (Addr.add _ _).block ≠ _; rw [Zr]; exact hn377_2) | exact hn377_2) (.int .i64 ((Zg l0 x3_1).f2))).trans hx377_0; replace hx377_1 := (ZM (p := ⟨gb376,2,none⟩) (by first | (rw [Zr]; exact hn377_2) | (show (Addr.add _ _).block ≠ _; rw [Zr]; exact hn377_2) | exact hn377_2) (.int .i64 ((Zg l0 x3_1).f2))).trans hx377_1; replace hx377_2 := (ZM (p := ⟨gb376,2,none⟩) (by first | (rw [Zr]; exact hn377_2) | (show (Addr.add _ _).block ≠ _; rw [Zr]; exact hn377_2) | exact hn377_2) (.int .i64 ((Zg l0 x3_1).f2))).trans hx377_2
                      (try have hy377_0 := fun (n_ : Nat) => (show (((((w5.drewN n_).setCell ⟨gb376,0,none⟩ (.int .i64 ((Zg l0 x3_1).f0))).setCell ⟨gb376,1,none⟩ (.int .i64 ((Zg l0 x3_1).f1))).setCell ⟨gb376,2,none⟩ (.int .i64 ((Zg l0 x3_1).f2)))).cell? _ = some _ from hx377_0))
                      (try have hy377_1 := fun (n_ : Nat) => (show (((((w5.drewN n_).setCell ⟨gb376,0,none⟩ (.int .i64 ((Zg l0 x3_1).f0))).setCell ⟨gb376,1,none⟩ (.int .i64 ((Zg l0 x3_1).f1))).setCell ⟨gb376,2,none⟩ (.int .i64 ((Zg l0 x3_1).f2)))).cell? _ = some _ from hx377_1))
                      (try have hy377_2 := fun (n_ : Nat) => (show (((((w5.drewN n_).setCell ⟨gb376,0,none⟩ (.int .i64 ((Zg l0 x3_1).f0))).setCell ⟨gb376,1,none⟩ (.int .i64 ((Zg l0 x3_1).f1))).setCell ⟨gb376,2,none⟩ (.int .i64 ((Zg l0 x3_1).f2)))).cell? _ = some _ from hx377_2))
                      clear hn377_0; clear hn377_1; clear hn377_2; replace p377 := eq_true p377; replace q377 := eq_true q377
                      go_wp2
                      repeat (go_quiet (fail); try go_wp2)
                      go_meet
                      case rel => exact ⟨_,(true),(by first | rfl | (simp; done) | (simp [*]; done)),H',⟨by have := HK1.out; first | omega | exact Nat.le_refl _⟩,⟨by (with_reducible repeat (first | refine Zy ?_ _ | refine Z0 ?_ | refine Zx ?_ _)); refine ZJ (cs := #[.int .i64 ((Zg l0 x3_1).f0),.int .i64 ((Zg l0 x3_1).f1),.int .i64 0]) ?_ 2 _ rfl; (with_reducible repeat (first | refine Zy ?_ _ | refine Z0 ?_ | refine Zx ?_ _)); refine ZJ (cs := #[.int .i64 ((Zg l0 x3_1).f0),.int .i64 0,.int .i64 0]) ?_ 1 _ rfl; (with_reducible repeat (first | refine Zy ?_ _ | refine Z0 ?_ | refine Zx ?_ _)); refine ZJ (cs := #[.int .i64 0,.int .i64 0,.int .i64 0]) ?_ 0 _ rfl; (with_reducible repeat (first | refine Zy ?_ _ | refine Z0 ?_ | refine Zx ?_ _)); exact BK376.out⟩,⟨by repeat (first | (with_reducible first | exact HB.out | apply Zd | apply Za | apply Zb | refine ZK ?_ GE376.out) | exact HB.out)⟩⟩
                    · rw [if_neg c17] at H
                      have c17b0 : decide (((Zg l0 x3_1).f1) < (-8388607)) = false := decide_eq_false c17; clear c17
                      by_cases c19 : ((Zg l0 x3_1).f1) > 8388607
                      · rw [if_pos c19] at H
                        have c19b0 : decide (8388607 < ((Zg l0 x3_1).f1)) = true := decide_eq_true c19; clear c19; have H' := Zc.mk H; clear H; have hcz20_0 : w5.cell? ⟨gb376,0,none⟩ = some (.int .i64 0) := (Zn BK376.out 0).trans rfl; have hcz20_1 : w5.cell? ⟨gb376,1,none⟩ = some (.int .i64 0) := (Zn BK376.out 1).trans rfl; have hcz20_2 : w5.cell? ⟨gb376,2,none⟩ = some (.int .i64 0) := (Zn BK376.out 2).trans rfl; have hfz20_0 := Zz BK376.out 0; have hfz20_1 := Zz BK376.out 1; have hfz20_2 := Zz BK376.out 2; have p377 : 0 ≤ ((ji12) : Int) := of_decide_eq_true (by first | (with_reducible assumption) | assumption); have q377 : (ji12) < (l0.length : Int) := of_decide_eq_true (by first | (with_reducible assumption) | assumption); obtain ⟨ad377,e377,hx377_0,hx377_1,hx377_2⟩ := Xx HR0.out (ji12) p377 q377
                        obtain rfl : ad375 = ad377 := (by injection e377)
                        have hn377_0 : ad375.block ≠ gb376 := Nat.ne_of_lt (Nat.lt_of_lt_of_le (by have := World.block_lt_of_cell? _ _ hx377_0; first | rwa [Zr] at this | exact this) GW376.out); have hn377_1 : ad375.block ≠ gb376 := Nat.ne_of_lt (Nat.lt_of_lt_of_le (by have := World.block_lt_of_cell? _ _ hx377_0; first | rwa [Zr] at this | exact this) GW376.out); have hn377_2 : ad375.block ≠ gb376 := Nat.ne_of_lt (Nat.lt_of_lt_of_le (by have := World.block_lt_of_cell? _ _ hx377_0; first | rwa [Zr] at this | exact this) GW376.out); replace hx377_0 := (HB.out.cell (World.block_lt_of_cell? w _ hx377_0)).trans hx377_0; replace hx377_1 := (HB.out.cell (World.block_lt_of_cell? w _ hx377_1)).trans hx377_1; replace hx377_2 := (HB.out.cell (World.block_lt_of_cell? w _ hx377_2)).trans hx377_2; replace hx377_0 := (ZM (p := ⟨gb376,0,none⟩) (by first | (rw [Zr]; exact hn377_0) | (show (Addr.add _ _).block ≠ _; rw [Zr]; exact hn377_0) | exact hn377_0) (.int .i64 ((Zg l0 x3_1).f0))).trans hx377_0; replace hx377_1 := (ZM (p := ⟨gb376,0,none⟩) (by first | (rw [Zr]; exact hn377_0) | (show (Addr.add _ _).block ≠ _; rw [Zr]; exact hn377_0) | exact hn377_0) (.int .i64 ((Zg l0 x3_1).f0))).trans hx377_1; replace hx377_2 := (ZM (p := ⟨gb376,0,none⟩) (by first | (rw [Zr]; exact hn377_0) | (show (Addr.add _ _).block ≠ _; rw [Zr]; exact hn377_0) | exact hn377_0) (.int .i64 ((Zg l0 x3_1).f0))).trans hx377_2; replace hx377_0 := (ZM (p := ⟨gb376,1,none⟩) (by first | (rw [Zr]; exact hn377_1) | (show (Addr.add _ _).block ≠ _; rw [Zr]; exact hn377_1) | exact hn377_1) (.int .i64 ((Zg l0 x3_1).f1))).trans hx377_0; replace hx377_1 := (ZM (p := ⟨gb376,1,none⟩) (by first | (rw [Zr]; exact hn377_1) | (show (Addr.add _ _).block ≠ _; rw [Zr]; exact hn377_1) | exact hn377_1) (.int .i64 ((Zg l0 x3_1).f1))).trans hx377_1; replace hx377_2 := (ZM (p := ⟨gb376,1,none⟩) (by first | (rw [Zr]; exact hn377_1) | (show (Addr.add _ _).block ≠ _; rw [Zr]; exact hn377_1) | exact hn377_1) (.int .i64 ((Zg l0 x3_1).f1))).trans hx377_2; replace hx377_0 := (ZM (p := ⟨gb376,2,none⟩) (by first | (rw [Zr]; exact hn377_2) | (show (Addr.add _ _).block ≠ _; rw [Zr]; exact hn377_2) | exact hn377_2) (.int .i64 ((Zg l0 x3_1).f2))).trans hx377_0; replace hx377_1 := (ZM (p := ⟨gb376,2,none⟩) (by first | (rw [Zr]; exact hn377_2) | (show (Addr.add _ _).block ≠ _; rw [Zr]; exact hn377_2) | exact hn377_2) (.int .i64 ((Zg l0 x3_1).f2))).trans hx377_1; replace hx377_2 := (ZM (p := ⟨gb376,2,none⟩) (by first | (rw [Zr]; exact hn377_2) | (show (Addr.add _ _).block ≠ _; rw [Zr]; exact hn377_2) | exact hn377_2) (.int .i64 ((Zg l0 x3_1).f2))).trans hx377_2
                        (try have hy377_0 := fun (n_ : Nat) => (show (((((w5.drewN n_).setCell ⟨gb376,0,none⟩ (.int .i64 ((Zg l0 x3_1).f0))).setCell ⟨gb376,1,none⟩ (.int .i64 ((Zg l0 x3_1).f1))).setCell ⟨gb376,2,none⟩ (.int .i64 ((Zg l0 x3_1).f2)))).cell? _ = some _ from hx377_0))
                        (try have hy377_1 := fun (n_ : Nat) => (show (((((w5.drewN n_).setCell ⟨gb376,0,none⟩ (.int .i64 ((Zg l0 x3_1).f0))).setCell ⟨gb376,1,none⟩ (.int .i64 ((Zg l0 x3_1).f1))).setCell ⟨gb376,2,none⟩ (.int .i64 ((Zg l0 x3_1).f2)))).cell? _ = some _ from hx377_1))
                        (try have hy377_2 := fun (n_ : Nat) => (show (((((w5.drewN n_).setCell ⟨gb376,0,none⟩ (.int .i64 ((Zg l0 x3_1).f0))).setCell ⟨gb376,1,none⟩ (.int .i64 ((Zg l0 x3_1).f1))).setCell ⟨gb376,2,none⟩ (.int .i64 ((Zg l0 x3_1).f2)))).cell? _ = some _ from hx377_2))
                        clear hn377_0; clear hn377_1; clear hn377_2; replace p377 := eq_true p377; replace q377 := eq_true q377
                        go_wp2
                        repeat (go_quiet (fail); try go_wp2)
                        go_meet
                        case rel => exact ⟨_,(true),(by first | rfl | (simp; done) | (simp [*]; done)),H',⟨by have := HK1.out; first | omega | exact Nat.le_refl _⟩,⟨by (with_reducible repeat (first | refine Zy ?_ _ | refine Z0 ?_ | refine Zx ?_ _)); refine ZJ (cs := #[.int .i64 ((Zg l0 x3_1).f0),.int .i64 ((Zg l0 x3_1).f1),.int .i64 0]) ?_ 2 _ rfl; (with_reducible repeat (first | refine Zy ?_ _ | refine Z0 ?_ | refine Zx ?_ _)); refine ZJ (cs := #[.int .i64 ((Zg l0 x3_1).f0),.int .i64 0,.int .i64 0]) ?_ 1 _ rfl; (with_reducible repeat (first | refine Zy ?_ _ | refine Z0 ?_ | refine Zx ?_ _)); refine ZJ (cs := #[.int .i64 0,.int .i64 0,.int .i64 0]) ?_ 0 _ rfl; (with_reducible repeat (first | refine Zy ?_ _ | refine Z0 ?_ | refine Zx ?_ _)); exact BK376.out⟩,⟨by repeat (first | (with_reducible first | exact HB.out | apply Zd | apply Za | apply Zb | refine ZK ?_ GE376.out) | exact HB.out)⟩⟩
                      · rw [if_neg c19] at H
                        have c19b0 : decide (8388607 < ((Zg l0 x3_1).f1)) = false := decide_eq_false c19; clear c19
                        by_cases c21 : ((Zg l0 x3_1).f2) < 0
                        · rw [if_pos c21] at H
                          have c21b0 : decide (((Zg l0 x3_1).f2) < 0) = true := decide_eq_true c21; clear c21; have H' := Zc.mk H; clear H; have hcz22_0 : w5.cell? ⟨gb376,0,none⟩ = some (.int .i64 0) := (Zn BK376.out 0).trans rfl; have hcz22_1 : w5.cell? ⟨gb376,1,none⟩ = some (.int .i64 0) := (Zn BK376.out 1).trans rfl; have hcz22_2 : w5.cell? ⟨gb376,2,none⟩ = some (.int .i64 0) := (Zn BK376.out 2).trans rfl; have hfz22_0 := Zz BK376.out 0; have hfz22_1 := Zz BK376.out 1; have hfz22_2 := Zz BK376.out 2; have p377 : 0 ≤ ((ji12) : Int) := of_decide_eq_true (by first | (with_reducible assumption) | assumption); have q377 : (ji12) < (l0.length : Int) := of_decide_eq_true (by first | (with_reducible assumption) | assumption); obtain ⟨ad377,e377,hx377_0,hx377_1,hx377_2⟩ := Xx HR0.out (ji12) p377 q377
                          obtain rfl : ad375 = ad377 := (by injection e377)
                          have hn377_0 : ad375.block ≠ gb376 := Nat.ne_of_lt (Nat.lt_of_lt_of_le (by have := World.block_lt_of_cell? _ _ hx377_0; first | rwa [Zr] at this | exact this) GW376.out); have hn377_1 : ad375.block ≠ gb376 := Nat.ne_of_lt (Nat.lt_of_lt_of_le (by have := World.block_lt_of_cell? _ _ hx377_0; first | rwa [Zr] at this | exact this) GW376.out); have hn377_2 : ad375.block ≠ gb376 := Nat.ne_of_lt (Nat.lt_of_lt_of_le (by have := World.block_lt_of_cell? _ _ hx377_0; first | rwa [Zr] at this | exact this) GW376.out); replace hx377_0 := (HB.out.cell (World.block_lt_of_cell? w _ hx377_0)).trans hx377_0; replace hx377_1 := (HB.out.cell (World.block_lt_of_cell? w _ hx377_1)).trans hx377_1; replace hx377_2 := (HB.out.cell (World.block_lt_of_cell? w _ hx377_2)).trans hx377_2; replace hx377_0 := (ZM (p := ⟨gb376,0,none⟩) (by first | (rw [Zr]; exact hn377_0) | (show (Addr.add _ _).block ≠ _; rw [Zr]; exact hn377_0) | exact hn377_0) (.int .i64 ((Zg l0 x3_1).f0))).trans hx377_0; replace hx377_1 := (ZM (p := ⟨gb376,0,none⟩) (by first | (rw [Zr]; exact hn377_0) | (show (Addr.add _ _).block ≠ _; rw [Zr]; exact hn377_0) | exact hn377_0) (.int .i64 ((Zg l0 x3_1).f0))).trans hx377_1; replace hx377_2 := (ZM (p := ⟨gb376,0,none⟩) (by first | (rw [Zr]; exact hn377_0) | (show (Addr.add _ _).block ≠ _; rw [Zr]; exact hn377_0) | exact hn377_0) (.int .i64 ((Zg l0 x3_1).f0))).trans hx377_2; replace hx377_0 := (ZM (p := ⟨gb376,1,none⟩) (by first | (rw [Zr]; exact hn377_1) | (show (Addr.add _ _).block ≠ _; rw [Zr]; exact hn377_1) | exact hn377_1) (.int .i64 ((Zg l0 x3_1).f1))).trans hx377_0; replace hx377_1 := (ZM (p := ⟨gb376,1,none⟩) (by first | (rw [Zr]; exact hn377_1) | (show (Addr.add _ _).block ≠ _; rw [Zr]; exact hn377_1) | exact hn377_1) (.int .i64 ((Zg l0 x3_1).f1))).trans hx377_1; replace hx377_2 := (ZM (p := ⟨gb376,1,none⟩) (by first | (rw [Zr]; exact hn377_1) | (show (Addr.add _ _).block ≠ _; rw [Zr]; exact hn377_1) | exact hn377_1) (.int .i64 ((Zg l0 x3_1).f1))).trans hx377_2; replace hx377_0 := (ZM (p := ⟨gb376,2,none⟩) (by first | (rw [Zr]; exact hn377_2) | (show (Addr.add _ _).block ≠ _; rw [Zr]; exact hn377_2) | exact hn377_2) (.int .i64 ((Zg l0 x3_1).f2))).trans hx377_0; replace hx377_1 := (ZM (p := ⟨gb376,2,none⟩) (by first | (rw [Zr]; exact hn377_2) | (show (Addr.add _ _).block ≠ _; rw [Zr]; exact hn377_2) | exact hn377_2) (.int .i64 ((Zg l0 x3_1).f2))).trans hx377_1; replace hx377_2 := (ZM (p := ⟨gb376,2,none⟩) (by first | (rw [Zr]; exact hn377_2) | (show (Addr.add _ _).block ≠ _; rw [Zr]; exact hn377_2) | exact hn377_2) (.int .i64 ((Zg l0 x3_1).f2))).trans hx377_2
                          (try have hy377_0 := fun (n_ : Nat) => (show (((((w5.drewN n_).setCell ⟨gb376,0,none⟩ (.int .i64 ((Zg l0 x3_1).f0))).setCell ⟨gb376,1,none⟩ (.int .i64 ((Zg l0 x3_1).f1))).setCell ⟨gb376,2,none⟩ (.int .i64 ((Zg l0 x3_1).f2)))).cell? _ = some _ from hx377_0))
                          (try have hy377_1 := fun (n_ : Nat) => (show (((((w5.drewN n_).setCell ⟨gb376,0,none⟩ (.int .i64 ((Zg l0 x3_1).f0))).setCell ⟨gb376,1,none⟩ (.int .i64 ((Zg l0 x3_1).f1))).setCell ⟨gb376,2,none⟩ (.int .i64 ((Zg l0 x3_1).f2)))).cell? _ = some _ from hx377_1))
                          (try have hy377_2 := fun (n_ : Nat) => (show (((((w5.drewN n_).setCell ⟨gb376,0,none⟩ (.int .i64 ((Zg l0 x3_1).f0))).setCell ⟨gb376,1,none⟩ (.int .i64 ((Zg l0 x3_1).f1))).setCell ⟨gb376,2,none⟩ (.int .i64 ((Zg l0 x3_1).f2)))).cell? _ = some _ from hx377_2))
                          clear hn377_0; clear hn377_1; clear hn377_2; replace p377 := eq_true p377; replace q377 := eq_true q377
                          go_wp2
                          repeat (go_quiet (fail); try go_wp2)
                          go_meet
                          case rel => exact ⟨_,(true),(by first | rfl | (simp; done) | (simp [*]; done)),H',⟨by have := HK1.out; first | omega | exact Nat.le_refl _⟩,⟨by (with_reducible repeat (first | refine Zy ?_ _ | refine Z0 ?_ | refine Zx ?_ _)); refine ZJ (cs := #[.int .i64 ((Zg l0 x3_1).f0),.int .i64 ((Zg l0 x3_1).f1),.int .i64 0]) ?_ 2 _ rfl; (with_reducible repeat (first | refine Zy ?_ _ | refine Z0 ?_ | refine Zx ?_ _)); refine ZJ (cs := #[.int .i64 ((Zg l0 x3_1).f0),.int .i64 0,.int .i64 0]) ?_ 1 _ rfl; (with_reducible repeat (first | refine Zy ?_ _ | refine Z0 ?_ | refine Zx ?_ _)); refine ZJ (cs := #[.int .i64 0,.int .i64 0,.int .i64 0]) ?_ 0 _ rfl; (with_reducible repeat (first | refine Zy ?_ _ | refine Z0 ?_ | refine Zx ?_ _)); exact BK376.out⟩,⟨by repeat (first | (with_reducible first | exact HB.out | apply Zd | apply Za | apply Zb | refine ZK ?_ GE376.out) | exact HB.out)⟩⟩
                        · rw [if_neg c21] at H
                          have c21b0 : decide (((Zg l0 x3_1).f2) < 0) = false := decide_eq_false c21; clear c21; have H' := Zc.mk H; clear H; have hcz23_0 : w5.cell? ⟨gb376,0,none⟩ = some (.int .i64 0) := (Zn BK376.out 0).trans rfl; have hcz23_1 : w5.cell? ⟨gb376,1,none⟩ = some (.int .i64 0) := (Zn BK376.out 1).trans rfl; have hcz23_2 : w5.cell? ⟨gb376,2,none⟩ = some (.int .i64 0) := (Zn BK376.out 2).trans rfl; have hfz23_0 := Zz BK376.out 0; have hfz23_1 := Zz BK376.out 1; have hfz23_2 := Zz BK376.out 2; have p377 : 0 ≤ ((ji12) : Int) := of_decide_eq_true (by first | (with_reducible assumption) | assumption); have q377 : (ji12) < (l0.length : Int) := of_decide_eq_true (by first | (with_reducible assumption) | assumption); obtain ⟨ad377,e377,hx377_0,hx377_1,hx377_2⟩ := Xx HR0.out (ji12) p377 q377
                          obtain rfl : ad375 = ad377 := (by injection e377)
                          have hn377_0 : ad375.block ≠ gb376 := Nat.ne_of_lt (Nat.lt_of_lt_of_le (by have := World.block_lt_of_cell? _ _ hx377_0; first | rwa [Zr] at this | exact this) GW376.out); have hn377_1 : ad375.block ≠ gb376 := Nat.ne_of_lt (Nat.lt_of_lt_of_le (by have := World.block_lt_of_cell? _ _ hx377_0; first | rwa [Zr] at this | exact this) GW376.out); have hn377_2 : ad375.block ≠ gb376 := Nat.ne_of_lt (Nat.lt_of_lt_of_le (by have := World.block_lt_of_cell? _ _ hx377_0; first | rwa [Zr] at this | exact this) GW376.out); replace hx377_0 := (HB.out.cell (World.block_lt_of_cell? w _ hx377_0)).trans hx377_0; replace hx377_1 := (HB.out.cell (World.block_lt_of_cell? w _ hx377_1)).trans hx377_1; replace hx377_2 := (HB.out.cell (World.block_lt_of_cell? w _ hx377_2)).trans hx377_2; replace hx377_0 := (ZM (p := ⟨gb376,0,none⟩) (by first | (rw [Zr]; exact hn377_0) | (show (Addr.add _ _).block ≠ _; rw [Zr]; exact hn377_0) | exact hn377_0) (.int .i64 ((Zg l0 x3_1).f0))).trans hx377_0; replace hx377_1 := (ZM (p := ⟨gb376,0,none⟩) (by first | (rw [Zr]; exact hn377_0) | (show (Addr.add _ _).block ≠ _; rw [Zr]; exact hn377_0) | exact hn377_0) (.int .i64 ((Zg l0 x3_1).f0))).trans hx377_1; replace hx377_2 := (ZM (p := ⟨gb376,0,none⟩) (by first | (rw [Zr]; exact hn377_0) | (show (Addr.add _ _).block ≠ _; rw [Zr]; exact hn377_0) | exact hn377_0) (.int .i64 ((Zg l0 x3_1).f0))).trans hx377_2; replace hx377_0 := (ZM (p := ⟨gb376,1,none⟩) (by first | (rw [Zr]; exact hn377_1) | (show (Addr.add _ _).block ≠ _; rw [Zr]; exact hn377_1) | exact hn377_1) (.int .i64 ((Zg l0 x3_1).f1))).trans hx377_0; replace hx377_1 := (ZM (p := ⟨gb376,1,none⟩) (by first | (rw [Zr]; exact hn377_1) | (show (Addr.add _ _).block ≠ _; rw [Zr]; exact hn377_1) | exact hn377_1) (.int .i64 ((Zg l0 x3_1).f1))).trans hx377_1; replace hx377_2 := (ZM (p := ⟨gb376,1,none⟩) (by first | (rw [Zr]; exact hn377_1) | (show (Addr.add _ _).block ≠ _; rw [Zr]; exact hn377_1) | exact hn377_1) (.int .i64 ((Zg l0 x3_1).f1))).trans hx377_2; replace hx377_0 := (ZM (p := ⟨gb376,2,none⟩) (by first | (rw [Zr]; exact hn377_2) | (show (Addr.add _ _).block ≠ _; rw [Zr]; exact hn377_2) | exact hn377_2) (.int .i64 ((Zg l0 x3_1).f2))).trans hx377_0; replace hx377_1 := (ZM (p := ⟨gb376,2,none⟩) (by first | (rw [Zr]; exact hn377_2) | (show (Addr.add _ _).block ≠ _; rw [Zr]; exact hn377_2) | exact hn377_2) (.int .i64 ((Zg l0 x3_1).f2))).trans hx377_1; replace hx377_2 := (ZM (p := ⟨gb376,2,none⟩) (by first | (rw [Zr]; exact hn377_2) | (show (Addr.add _ _).block ≠ _; rw [Zr]; exact hn377_2) | exact hn377_2) (.int .i64 ((Zg l0 x3_1).f2))).trans hx377_2
                          (try have hy377_0 := fun (n_ : Nat) => (show (((((w5.drewN n_).setCell ⟨gb376,0,none⟩ (.int .i64 ((Zg l0 x3_1).f0))).setCell ⟨gb376,1,none⟩ (.int .i64 ((Zg l0 x3_1).f1))).setCell ⟨gb376,2,none⟩ (.int .i64 ((Zg l0 x3_1).f2)))).cell? _ = some _ from hx377_0))
                          (try have hy377_1 := fun (n_ : Nat) => (show (((((w5.drewN n_).setCell ⟨gb376,0,none⟩ (.int .i64 ((Zg l0 x3_1).f0))).setCell ⟨gb376,1,none⟩ (.int .i64 ((Zg l0 x3_1).f1))).setCell ⟨gb376,2,none⟩ (.int .i64 ((Zg l0 x3_1).f2)))).cell? _ = some _ from hx377_1))
                          (try have hy377_2 := fun (n_ : Nat) => (show (((((w5.drewN n_).setCell ⟨gb376,0,none⟩ (.int .i64 ((Zg l0 x3_1).f0))).setCell ⟨gb376,1,none⟩ (.int .i64 ((Zg l0 x3_1).f1))).setCell ⟨gb376,2,none⟩ (.int .i64 ((Zg l0 x3_1).f2)))).cell? _ = some _ from hx377_2))
                          clear hn377_0; clear hn377_1; clear hn377_2; replace p377 := eq_true p377; replace q377 := eq_true q377
                          go_wp2
                          repeat (go_quiet (fail); try go_wp2)
                          go_meet
                          case rel => exact ⟨_,(decide (((Zg l0 x3_1).f2) > 2)),(by first | rfl | (simp; done) | (simp [*]; done)),H',⟨by have := HK1.out; first | omega | exact Nat.le_refl _⟩,⟨by (with_reducible repeat (first | refine Zy ?_ _ | refine Z0 ?_ | refine Zx ?_ _)); refine ZJ (cs := #[.int .i64 ((Zg l0 x3_1).f0),.int .i64 ((Zg l0 x3_1).f1),.int .i64 0]) ?_ 2 _ rfl; (with_reducible repeat (first | refine Zy ?_ _ | refine Z0 ?_ | refine Zx ?_ _)); refine ZJ (cs := #[.int .i64 ((Zg l0 x3_1).f0),.int .i64 0,.int .i64 0]) ?_ 1 _ rfl; (with_reducible repeat (first | refine Zy ?_ _ | refine Z0 ?_ | refine Zx ?_ _)); refine ZJ (cs := #[.int .i64 0,.int .i64 0,.int .i64 0]) ?_ 0 _ rfl; (with_reducible repeat (first | refine Zy ?_ _ | refine Z0 ?_ | refine Zx ?_ _)); exact BK376.out⟩,⟨by repeat (first | (with_reducible first | exact HB.out | apply Zd | apply Za | apply Zb | refine ZK ?_ GE376.out) | exact HB.out)⟩⟩
                · rw [if_neg c14] at H
                  exact absurd H (by simp)
              · rw [if_neg c13] at H
                exact absurd H (by simp)
            · rw [if_neg c11] at H
              have c11b0 : decide (0 < x3_1) = false := decide_eq_false c11; clear c11
              by_cases c24 : ((Zg l0 x3_1).f1) < (-8388607)
              · rw [if_pos c24] at H
                have c24b0 : decide (((Zg l0 x3_1).f1) < (-8388607)) = true := decide_eq_true c24; clear c24; have H' := Zc.mk H; clear H; have hcz25_0 : w5.cell? ⟨gb376,0,none⟩ = some (.int .i64 0) := (Zn BK376.out 0).trans rfl; have hcz25_1 : w5.cell? ⟨gb376,1,none⟩ = some (.int .i64 0) := (Zn BK376.out 1).trans rfl; have hcz25_2 : w5.cell? ⟨gb376,2,none⟩ = some (.int .i64 0) := (Zn BK376.out 2).trans rfl; have hfz25_0 := Zz BK376.out 0; have hfz25_1 := Zz BK376.out 1; have hfz25_2 := Zz BK376.out 2
                go_wp2
                repeat (go_quiet (fail); try go_wp2)
                go_meet
                case rel => exact ⟨_,(true),(by first | rfl | (simp; done) | (simp [*]; done)),H',⟨by have := HK1.out; first | omega | exact Nat.le_refl _⟩,⟨by (with_reducible repeat (first | refine Zy ?_ _ | refine Z0 ?_ | refine Zx ?_ _)); refine ZJ (cs := #[.int .i64 ((Zg l0 x3_1).f0),.int .i64 ((Zg l0 x3_1).f1),.int .i64 0]) ?_ 2 _ rfl; (with_reducible repeat (first | refine Zy ?_ _ | refine Z0 ?_ | refine Zx ?_ _)); refine ZJ (cs := #[.int .i64 ((Zg l0 x3_1).f0),.int .i64 0,.int .i64 0]) ?_ 1 _ rfl; (with_reducible repeat (first | refine Zy ?_ _ | refine Z0 ?_ | refine Zx ?_ _)); refine ZJ (cs := #[.int .i64 0,.int .i64 0,.int .i64 0]) ?_ 0 _ rfl; (with_reducible repeat (first | refine Zy ?_ _ | refine Z0 ?_ | refine Zx ?_ _)); exact BK376.out⟩,⟨by repeat (first | (with_reducible first | exact HB.out | apply Zd | apply Za | apply Zb | refine ZK ?_ GE376.out) | exact HB.out)⟩⟩
              · rw [if_neg c24] at H
                have c24b0 : decide (((Zg l0 x3_1).f1) < (-8388607)) = false := decide_eq_false c24; clear c24
                by_cases c26 : ((Zg l0 x3_1).f1) > 8388607
                · rw [if_pos c26] at H
                  have c26b0 : decide (8388607 < ((Zg l0 x3_1).f1)) = true := decide_eq_true c26; clear c26; have H' := Zc.mk H; clear H; have hcz27_0 : w5.cell? ⟨gb376,0,none⟩ = some (.int .i64 0) := (Zn BK376.out 0).trans rfl; have hcz27_1 : w5.cell? ⟨gb376,1,none⟩ = some (.int .i64 0) := (Zn BK376.out 1).trans rfl; have hcz27_2 : w5.cell? ⟨gb376,2,none⟩ = some (.int .i64 0) := (Zn BK376.out 2).trans rfl; have hfz27_0 := Zz BK376.out 0; have hfz27_1 := Zz BK376.out 1; have hfz27_2 := Zz BK376.out 2
                  go_wp2
                  repeat (go_quiet (fail); try go_wp2)
                  go_meet
                  case rel => exact ⟨_,(true),(by first | rfl | (simp; done) | (simp [*]; done)),H',⟨by have := HK1.out; first | omega | exact Nat.le_refl _⟩,⟨by (with_reducible repeat (first | refine Zy ?_ _ | refine Z0 ?_ | refine Zx ?_ _)); refine ZJ (cs := #[.int .i64 ((Zg l0 x3_1).f0),.int .i64 ((Zg l0 x3_1).f1),.int .i64 0]) ?_ 2 _ rfl; (with_reducible repeat (first | refine Zy ?_ _ | refine Z0 ?_ | refine Zx ?_ _)); refine ZJ (cs := #[.int .i64 ((Zg l0 x3_1).f0),.int .i64 0,.int .i64 0]) ?_ 1 _ rfl; (with_reducible repeat (first | refine Zy ?_ _ | refine Z0 ?_ | refine Zx ?_ _)); refine ZJ (cs := #[.int .i64 0,.int .i64 0,.int .i64 0]) ?_ 0 _ rfl; (with_reducible repeat (first | refine Zy ?_ _ | refine Z0 ?_ | refine Zx ?_ _)); exact BK376.out⟩,⟨by repeat (first | (with_reducible first | exact HB.out | apply Zd | apply Za | apply Zb | refine ZK ?_ GE376.out) | exact HB.out)⟩⟩
                · rw [if_neg c26] at H
                  have c26b0 : decide (8388607 < ((Zg l0 x3_1).f1)) = false := decide_eq_false c26; clear c26
                  by_cases c28 : ((Zg l0 x3_1).f2) < 0
                  · rw [if_pos c28] at H
                    have c28b0 : decide (((Zg l0 x3_1).f2) < 0) = true := decide_eq_true c28; clear c28; have H' := Zc.mk H; clear H; have hcz29_0 : w5.cell? ⟨gb376,0,none⟩ = some (.int .i64 0) := (Zn BK376.out 0).trans rfl; have hcz29_1 : w5.cell? ⟨gb376,1,none⟩ = some (.int .i64 0) := (Zn BK376.out 1).trans rfl; have hcz29_2 : w5.cell? ⟨gb376,2,none⟩ = some (.int .i64 0) := (Zn BK376.out 2).trans rfl; have hfz29_0 := Zz BK376.out 0; have hfz29_1 := Zz BK376.out 1; have hfz29_2 := Zz BK376.out 2
                    go_wp2
                    repeat (go_quiet (fail); try go_wp2)
                    go_meet
                    case rel => exact ⟨_,(true),(by first | rfl | (simp; done) | (simp [*]; done)),H',⟨by have := HK1.out; first | omega | exact Nat.le_refl _⟩,⟨by (with_reducible repeat (first | refine Zy ?_ _ | refine Z0 ?_ | refine Zx ?_ _)); refine ZJ (cs := #[.int .i64 ((Zg l0 x3_1).f0),.int .i64 ((Zg l0 x3_1).f1),.int .i64 0]) ?_ 2 _ rfl; (with_reducible repeat (first | refine Zy ?_ _ | refine Z0 ?_ | refine Zx ?_ _)); refine ZJ (cs := #[.int .i64 ((Zg l0 x3_1).f0),.int .i64 0,.int .i64 0]) ?_ 1 _ rfl; (with_reducible repeat (first | refine Zy ?_ _ | refine Z0 ?_ | refine Zx ?_ _)); refine ZJ (cs := #[.int .i64 0,.int .i64 0,.int .i64 0]) ?_ 0 _ rfl; (with_reducible repeat (first | refine Zy ?_ _ | refine Z0 ?_ | refine Zx ?_ _)); exact BK376.out⟩,⟨by repeat (first | (with_reducible first | exact HB.out | apply Zd | apply Za | apply Zb | refine ZK ?_ GE376.out) | exact HB.out)⟩⟩
                  · rw [if_neg c28] at H
                    have c28b0 : decide (((Zg l0 x3_1).f2) < 0) = false := decide_eq_false c28; clear c28; have H' := Zc.mk H; clear H; have hcz30_0 : w5.cell? ⟨gb376,0,none⟩ = some (.int .i64 0) := (Zn BK376.out 0).trans rfl; have hcz30_1 : w5.cell? ⟨gb376,1,none⟩ = some (.int .i64 0) := (Zn BK376.out 1).trans rfl; have hcz30_2 : w5.cell? ⟨gb376,2,none⟩ = some (.int .i64 0) := (Zn BK376.out 2).trans rfl; have hfz30_0 := Zz BK376.out 0; have hfz30_1 := Zz BK376.out 1; have hfz30_2 := Zz BK376.out 2
                    go_wp2
                    repeat (go_quiet (fail); try go_wp2)
                    go_meet
                    case rel => exact ⟨_,(decide (((Zg l0 x3_1).f2) > 2)),(by first | rfl | (simp; done) | (simp [*]; done)),H',⟨by have := HK1.out; first | omega | exact Nat.le_refl _⟩,⟨by (with_reducible repeat (first | refine Zy ?_ _ | refine Z0 ?_ | refine Zx ?_ _)); refine ZJ (cs := #[.int .i64 ((Zg l0 x3_1).f0),.int .i64 ((Zg l0 x3_1).f1),.int .i64 0]) ?_ 2 _ rfl; (with_reducible repeat (first | refine Zy ?_ _ | refine Z0 ?_ | refine Zx ?_ _)); refine ZJ (cs := #[.int .i64 ((Zg l0 x3_1).f0),.int .i64 0,.int .i64 0]) ?_ 1 _ rfl; (with_reducible repeat (first | refine Zy ?_ _ | refine Z0 ?_ | refine Zx ?_ _)); refine ZJ (cs := #[.int .i64 0,.int .i64 0,.int .i64 0]) ?_ 0 _ rfl; (with_reducible repeat (first | refine Zy ?_ _ | refine Z0 ?_ | refine Zx ?_ _)); exact BK376.out⟩,⟨by repeat (first | (with_reducible first | exact HB.out | apply Zd | apply Za | apply Zb | refine ZK ?_ GE376.out) | exact HB.out)⟩⟩
       case rest =>
        clear HC4
        (try clear c1); (try clear c2); (try clear c2b0); (try clear p2); (try clear c3); (try clear c3b0); (try clear p3); (try clear q3); (try clear hx3); (try clear p6); (try clear c7); (try clear c7b0); (try clear c9); (try clear c9b0); (try clear c11); (try clear c11b0); (try clear c13); (try clear c13b0); (try clear c14); (try clear c14b0); (try clear c15); (try clear c15b0); (try clear c17); (try clear c17b0); (try clear c19); (try clear c19b0); (try clear c21); (try clear c21b0); (try clear c24); (try clear c24b0); (try clear c26); (try clear c26b0); (try clear c28); (try clear c28b0); (try clear hcz10_0); (try clear hcz10_1); (try clear hcz10_2); (try clear hcz16_0); (try clear hcz16_1); (try clear hcz16_2); (try clear hcz18_0); (try clear hcz18_1); (try clear hcz18_2); (try clear hcz20_0); (try clear hcz20_1); (try clear hcz20_2); (try clear hcz22_0); (try clear hcz22_1); (try clear hcz22_2); (try clear hcz23_0); (try clear hcz23_1); (try clear hcz23_2); (try clear hcz25_0); (try clear hcz25_1); (try clear hcz25_2); (try clear hcz27_0); (try clear hcz27_1); (try clear hcz27_2); (try clear hcz29_0); (try clear hcz29_1); (try clear hcz29_2); (try clear hcz30_0); (try clear hcz30_1); (try clear hcz30_2); (try clear hcz6_0); (try clear hcz6_1); (try clear hcz6_2); (try clear hcz8_0); (try clear hcz8_1); (try clear hcz8_2); (try clear hfz10_0); (try clear hfz10_1); (try clear hfz10_2); (try clear hfz16_0); (try clear hfz16_1); (try clear hfz16_2); (try clear hfz18_0); (try clear hfz18_1); (try clear hfz18_2); (try clear hfz20_0); (try clear hfz20_1); (try clear hfz20_2); (try clear hfz22_0); (try clear hfz22_1); (try clear hfz22_2); (try clear hfz23_0); (try clear hfz23_1); (try clear hfz23_2); (try clear hfz25_0); (try clear hfz25_1); (try clear hfz25_2); (try clear hfz27_0); (try clear hfz27_1); (try clear hfz27_2); (try clear hfz29_0); (try clear hfz29_1); (try clear hfz29_2); (try clear hfz30_0); (try clear hfz30_1); (try clear hfz30_2); (try clear hfz6_0); (try clear hfz6_1); (try clear hfz6_2); (try clear hfz8_0); (try clear hfz8_1); (try clear hfz8_2); (try clear hx375_0); (try clear hx375_1); (try clear hx375_2); (try clear hx377_0); (try clear hx377_1); (try clear hx377_2); (try clear p375); (try clear p377); (try clear q375); (try clear q377)
        obtain ⟨kq,x57_3,rfl,HA,HJ3,BK376,HB⟩ := hcut
        cases kq with
        | zero => exact absurd HA.out (by simp [Zq.j1])
        | succ kj3 =>
         have H := HA.out; clear HA; simp only [Zq.j1] at H
         by_cases c31 : x57_3 = true
         · subst c31
           have H1 : (some false) = some r := by rw [if_pos rfl] at H; exact H
           clear H; have H := H1; clear H1; obtain rfl := Option.some.inj H
           go_wp2
           repeat (go_quiet (fail); try go_wp2)
           go_ret; exact ⟨by first | rfl | (simp [Zv,Zu] <;> rfl) | (simp [*,Zv,Zu] <;> rfl),by repeat (first | (with_reducible first | exact HB.out | apply Zd | apply Za | apply Zb | refine ZK ?_ GE376.out) | exact HB.out)⟩
         · replace c31 := Bool.eq_false_iff.mpr c31
           subst c31
           have H1 : (if ((Zg l0 x3_1).f2) = 2 then (if (wrap64 (x3_1 + 1)) < (l0.length : Int) then (if 0 ≤ (wrap64 (x3_1 + 1)) then (if (wrap64 (((Zg l0 (wrap64 (x3_1 + 1))).f0) - ((Zg l0 x3_1).f0))) > 1000 then (some false) else (Zq.l0 kj3 l0 (wrap64 (x3_1 + 1)))) else (none)) else (Zq.l0 kj3 l0 (wrap64 (x3_1 + 1)))) else (Zq.l0 kj3 l0 (wrap64 (x3_1 + 1)))) = some r := by rw [if_neg (show ¬ (false = true) by decide)] at H; exact H
           clear H; have H := H1; clear H1
           by_cases c32 : ((Zg l0 x3_1).f2) = 2
           · rw [if_pos c32] at H
             have c32b0 : (((Zg l0 x3_1).f2) == 2) = true := beq_iff_eq.mpr c32; have c32b1 : (((Zg l0 x3_1).f2) != 2) = false := bne_eq_false_iff_eq.mpr c32; clear c32
             by_cases c33 : (wrap64 (x3_1 + 1)) < (l0.length : Int)
             · rw [if_pos c33] at H
               have c33b0 : decide ((wrap64 (x3_1 + 1)) < (l0.length : Int)) = true := decide_eq_true c33; clear c33
               obtain ⟨ji34,hji34⟩ : ∃ j_ : Int,(wrap64 (x3_1 + 1)) = j_ := ⟨_,rfl⟩
               replace H : (if 0 ≤ (ji34) then (if (wrap64 (((Zg l0 (ji34)).f0) - ((Zg l0 x3_1).f0))) > 1000 then (some false) else (Zq.l0 kj3 l0 ji34)) else (none)) = some r := by first | (rw [hji34] at H; exact H) | (simp only [hji34] at H ⊢; exact H)
               (try rw [hji34] at c33b0)
               have hji34w : (IntKind.i64.wrap (x3_1 + 1)) = ji34 := (i64_w _).trans hji34
               by_cases c35 : 0 ≤ (ji34)
               · rw [if_pos c35] at H
                 have c35b0 : decide (0 ≤ (ji34)) = true := decide_eq_true c35; clear c35
                 by_cases c36 : (wrap64 (((Zg l0 (ji34)).f0) - ((Zg l0 x3_1).f0))) > 1000
                 · rw [if_pos c36] at H
                   have c36b0 : decide (1000 < (wrap64 (((Zg l0 (ji34)).f0) - ((Zg l0 x3_1).f0)))) = true := decide_eq_true c36; clear c36; obtain rfl := Option.some.inj H; have hcz37_0 : wc.cell? ⟨gb376,0,none⟩ = some (.int .i64 ((Zg l0 x3_1).f0)) := (Zn BK376.out 0).trans rfl; have hcz37_1 : wc.cell? ⟨gb376,1,none⟩ = some (.int .i64 ((Zg l0 x3_1).f1)) := (Zn BK376.out 1).trans rfl; have hcz37_2 : wc.cell? ⟨gb376,2,none⟩ = some (.int .i64 ((Zg l0 x3_1).f2)) := (Zn BK376.out 2).trans rfl; have hfz37_0 := Zz BK376.out 0; have hfz37_1 := Zz BK376.out 1; have hfz37_2 := Zz BK376.out 2; have p378 : 0 ≤ ((ji34) : Int) := of_decide_eq_true (by first | (with_reducible assumption) | assumption); have q378 : (ji34) < (l0.length : Int) := of_decide_eq_true (by first | (with_reducible assumption) | assumption); obtain ⟨ad378,e378,hx378_0,hx378_1,hx378_2⟩ := Xx HR0.out (ji34) p378 q378
                   obtain rfl : ad375 = ad378 := (by injection e378)
                   replace hx378_0 := (HB.out.cell (World.block_lt_of_cell? w _ hx378_0)).trans hx378_0; replace hx378_1 := (HB.out.cell (World.block_lt_of_cell? w _ hx378_1)).trans hx378_1; replace hx378_2 := (HB.out.cell (World.block_lt_of_cell? w _ hx378_2)).trans hx378_2; replace p378 := eq_true p378; replace q378 := eq_true q378
                   go_wp2
                   repeat (go_quiet (fail); try go_wp2)
                   go_ret; exact ⟨by first | rfl | (simp [Zv,Zu] <;> rfl) | (simp only [← hji34]; first | rfl | (simp [Zv,Zu] <;> rfl)) | (simp [*,Zv,Zu] <;> rfl),by repeat (first | (with_reducible first | exact HB.out | apply Zd | apply Za | apply Zb | refine ZK ?_ GE376.out) | exact HB.out)⟩
                 · rw [if_neg c36] at H
                   have c36b0 : decide (1000 < (wrap64 (((Zg l0 (ji34)).f0) - ((Zg l0 x3_1).f0)))) = false := decide_eq_false c36; clear c36; have H' := Zc.mk H; clear H; have hcz38_0 : wc.cell? ⟨gb376,0,none⟩ = some (.int .i64 ((Zg l0 x3_1).f0)) := (Zn BK376.out 0).trans rfl; have hcz38_1 : wc.cell? ⟨gb376,1,none⟩ = some (.int .i64 ((Zg l0 x3_1).f1)) := (Zn BK376.out 1).trans rfl; have hcz38_2 : wc.cell? ⟨gb376,2,none⟩ = some (.int .i64 ((Zg l0 x3_1).f2)) := (Zn BK376.out 2).trans rfl; have hfz38_0 := Zz BK376.out 0; have hfz38_1 := Zz BK376.out 1; have hfz38_2 := Zz BK376.out 2; have p378 : 0 ≤ ((ji34) : Int) := of_decide_eq_true (by first | (with_reducible assumption) | assumption); have q378 : (ji34) < (l0.length : Int) := of_decide_eq_true (by first | (with_reducible assumption) | assumption); obtain ⟨ad378,e378,hx378_0,hx378_1,hx378_2⟩ := Xx HR0.out (ji34) p378 q378
                   obtain rfl : ad375 = ad378 := (by injection e378)
                   replace hx378_0 := (HB.out.cell (World.block_lt_of_cell? w _ hx378_0)).trans hx378_0; replace hx378_1 := (HB.out.cell (World.block_lt_of_cell? w _ hx378_1)).trans hx378_1; replace hx378_2 := (HB.out.cell (World.block_lt_of_cell? w _ hx378_2)).trans hx378_2; replace p378 := eq_true p378; replace q378 := eq_true q378
                   go_wp2
                   repeat (go_quiet (fail); try go_wp2)
                   go_roundg kj3
                   case measure => have := HK1.out; have := HJ3.out; omega
                   case rel => exact ⟨(ji34),(by first | rfl | (simp; done) | (simp only [← hji34] <;> (first | rfl | simp)) | (simp [*]; done)),H',⟨by have := HK1.out; have := HJ3.out; omega⟩,⟨by repeat (first | (with_reducible first | exact HB.out | apply Zd | apply Za | apply Zb | refine ZK ?_ GE376.out) | exact HB.out)⟩⟩
               · rw [if_neg c35] at H
                 exact absurd H (by simp)
             · rw [if_neg c33] at H
               have c33b0 : decide ((wrap64 (x3_1 + 1)) < (l0.length : Int)) = false := decide_eq_false c33; clear c33; have H' := Zc.mk H; clear H; have hcz39_0 : wc.cell? ⟨gb376,0,none⟩ = some (.int .i64 ((Zg l0 x3_1).f0)) := (Zn BK376.out 0).trans rfl; have hcz39_1 : wc.cell? ⟨gb376,1,none⟩ = some (.int .i64 ((Zg l0 x3_1).f1)) := (Zn BK376.out 1).trans rfl; have hcz39_2 : wc.cell? ⟨gb376,2,none⟩ = some (.int .i64 ((Zg l0 x3_1).f2)) := (Zn BK376.out 2).trans rfl; have hfz39_0 := Zz BK376.out 0; have hfz39_1 := Zz BK376.out 1; have hfz39_2 := Zz BK376.out 2
               go_wp2
               repeat (go_quiet (fail); try go_wp2)
               go_roundg kj3
               case measure => have := HK1.out; have := HJ3.out; omega
               case rel => exact ⟨(wrap64 (x3_1 + 1)),(by first | rfl | (simp; done) | (simp [*]; done)),H',⟨by have := HK1.out; have := HJ3.out; omega⟩,⟨by repeat (first | (with_reducible first | exact HB.out | apply Zd | apply Za | apply Zb | refine ZK ?_ GE376.out) | exact HB.out)⟩⟩
           · rw [if_neg c32] at H
             have c32b0 : (((Zg l0 x3_1).f2) == 2) = false := beq_eq_false_iff_ne.mpr c32; have c32b1 : (((Zg l0 x3_1).f2) != 2) = true := bne_iff_ne.mpr c32; have H' := Zc.mk H; clear H; have hcz40_0 : wc.cell? ⟨gb376,0,none⟩ = some (.int .i64 ((Zg l0 x3_1).f0)) := (Zn BK376.out 0).trans rfl; have hcz40_1 : wc.cell? ⟨gb376,1,none⟩ = some (.int .i64 ((Zg l0 x3_1).f1)) := (Zn BK376.out 1).trans rfl; have hcz40_2 : wc.cell? ⟨gb376,2,none⟩ = some (.int .i64 ((Zg l0 x3_1).f2)) := (Zn BK376.out 2).trans rfl; have hfz40_0 := Zz BK376.out 0; have hfz40_1 := Zz BK376.out 1; have hfz40_2 := Zz BK376.out 2
             go_wp2
             repeat (go_quiet (fail); try go_wp2)
             go_roundg kj3
             case measure => have := HK1.out; have := HJ3.out; omega
             case rel => exact ⟨(wrap64 (x3_1 + 1)),(by first | rfl | (simp; done) | (simp [*]; done)),H',⟨by have := HK1.out; have := HJ3.out; omega⟩,⟨by repeat (first | (with_reducible first | exact HB.out | apply Zd | apply Za | apply Zb | refine ZK ?_ GE376.out) | exact HB.out)⟩⟩
     · rw [if_neg c3] at H
       exact absurd H (by simp)
   · rw [if_neg c2] at H
     have c2b0 : decide (x3_1 < (l0.length : Int)) = false := decide_eq_false c2; clear c2
     by_cases c41 : (l0.length : Int) ≥ 1
     · rw [if_pos c41] at H
       have c41b0 : decide (1 ≤ (l0.length : Int)) = true := decide_eq_true c41; have c41b1 : decide (1 ≤ l0.length) = true := decide_eq_true (by omega); clear c41; obtain rfl := Option.some.inj H
       go_wp2
       repeat (go_quiet (fail); try go_wp2)
       go_ret; exact ⟨by first | rfl | (simp [Zv,Zu] <;> rfl) | (simp [*,Zv,Zu] <;> rfl),by repeat (first | (with_reducible first | exact HB.out | apply Zd | apply Za | apply Zb) | exact HB.out)⟩
     · rw [if_neg c41] at H
       have c41b0 : decide (1 ≤ (l0.length : Int)) = false := decide_eq_false c41; have c41b1 : decide (1 ≤ l0.length) = false := decide_eq_false (by omega); clear c41; obtain rfl := Option.some.inj H
       go_wp2
       repeat (go_quiet (fail); try go_wp2)
       go_ret; exact ⟨by first | rfl | (simp [Zv,Zu] <;> rfl) | (simp [*,Zv,Zu] <;> rfl),by repeat (first | (with_reducible first | exact HB.out | apply Zd | apply Za | apply Zb) | exact HB.out)⟩
end Go.Proofs.Ytomlfbmfdoallaa.PA

namespace Go.Proofs.Ytomlfbmfdoallaa.PA
open Go.RowKit Go.Proofs.YtomlfbmfdoallaaW.PrintWords Go.Proofs.YtomlfbmfdoallaaW.PrintLast Go.Proofs.YtomlfbmfdoallaaW.PrintMore
attribute [local go_sem] Xf Xg Xo Xn Xa ZZ Xh Xi
set_option linter.unusedVariables false
set_option linter.unusedSimpArgs false
mutual
def Z2.j1 : Nat → List (S56) → Int → Int → Option (Int)
 | 0,_,_,_ => none
 | k + 1,x0,x1,x5 => if x5 = (wrap64 ((x0.length : Int) - 1)) then (Z2.j2 k x0 x1 x5 true) else (if 0 ≤ x5 then (if x5 < (x0.length : Int) then (Z2.j2 k x0 x1 x5 (((Zg x0 x5).f2) == 0)) else (none)) else (none))
def Z2.j2 : Nat → List (S56) → Int → Int → Bool → Option (Int)
 | 0,_,_,_,_ => none
 | k + 1,x0,x1,x5,x49 => if x49 = true then (if 0 ≤ x5 then (if x5 < (x0.length : Int) then (some ((Zg x0 x5).f1)) else (none)) else (none)) else (if 0 ≤ x5 then (if x5 < (x0.length : Int) then (if 0 ≤ (wrap64 (x5 + 1)) then (if (wrap64 (x5 + 1)) < (x0.length : Int) then (if ((Zg x0 x5).f2) = 1 then ((ZF.f (wrap64 ((wrap64 (((Zg x0 (wrap64 (x5 + 1))).f1) - ((Zg x0 x5).f1))) * (wrap64 (x1 - ((Zg x0 x5).f0))))) (wrap64 (((Zg x0 (wrap64 (x5 + 1))).f0) - ((Zg x0 x5).f0)))).bind fun t390 => (some (wrap64 (((Zg x0 x5).f1) + t390)))) else ((ZF.f (wrap64 ((wrap64 (((Zg x0 (wrap64 (x5 + 1))).f1) - ((Zg x0 x5).f1))) * (wrap64 ((wrap64 ((wrap64 ((wrap64 (3 * (wrap64 (x1 - ((Zg x0 x5).f0))))) * (wrap64 (x1 - ((Zg x0 x5).f0))))) * (wrap64 (((Zg x0 (wrap64 (x5 + 1))).f0) - ((Zg x0 x5).f0))))) - (wrap64 ((wrap64 ((wrap64 (2 * (wrap64 (x1 - ((Zg x0 x5).f0))))) * (wrap64 (x1 - ((Zg x0 x5).f0))))) * (wrap64 (x1 - ((Zg x0 x5).f0))))))))) (wrap64 ((wrap64 ((wrap64 (((Zg x0 (wrap64 (x5 + 1))).f0) - ((Zg x0 x5).f0))) * (wrap64 (((Zg x0 (wrap64 (x5 + 1))).f0) - ((Zg x0 x5).f0))))) * (wrap64 (((Zg x0 (wrap64 (x5 + 1))).f0) - ((Zg x0 x5).f0)))))).bind fun t391 => (some (wrap64 (((Zg x0 x5).f1) + t391))))) else (none)) else (none)) else (none)) else (none))
def Z2.l0 : Nat → List (S56) → Int → Int → Option (Int)
 | 0,_,_,_ => none
 | k + 1,x0,x1,x5 => if (wrap64 (x5 + 1)) < (x0.length : Int) then (if 0 ≤ (wrap64 (x5 + 1)) then (if ((Zg x0 (wrap64 (x5 + 1))).f0) ≤ x1 then (Z2.l0 k x0 x1 (wrap64 (x5 + 1))) else (Z2.j1 k x0 x1 x5)) else (none)) else (Z2.j1 k x0 x1 x5)
end
def Z2.f (k : Nat) (l0 : List (S56)) (a1 : Int) : Option (Int) := if 0 < (l0.length : Int) then (if a1 < ((Zg l0 0).f0) then (some ((Zg l0 0).f1)) else (Z2.l0 k l0 a1 0)) else (none)
theorem Z2.Xq : ∀ k,(∀ y0 y1 y2,LeO (Z2.j1 k y0 y1 y2) (Z2.j1 (k + 1) y0 y1 y2)) ∧ (∀ y0 y1 y2 y3,LeO (Z2.j2 k y0 y1 y2 y3) (Z2.j2 (k + 1) y0 y1 y2 y3)) ∧ (∀ y0 y1 y2,LeO (Z2.l0 k y0 y1 y2) (Z2.l0 (k + 1) y0 y1 y2))
 | 0 => ⟨fun _ _ _ r h => by simp [Z2.j1] at h,fun _ _ _ _ r h => by simp [Z2.j2] at h,fun _ _ _ r h => by simp [Z2.l0] at h⟩
 | k + 1 => by
  obtain ⟨ih0,ih1,ih2⟩ := Z2.Xq k; refine ⟨?_,?_,?_⟩
  · intro y0 y1 y2
    unfold Z2.j1
    repeat' first
    | (with_reducible exact ih0 _ _ _)
    | (with_reducible exact ih1 _ _ _ _)
    | (with_reducible exact ih2 _ _ _)
    | (with_reducible exact LeO.refl _)
    | (with_reducible exact LeO.none _)
    | (with_reducible refine LeO.ite ?_ ?_)
    | (with_reducible refine LeO.bind ?_ (fun _ => ?_))
    | exact ih0 _ _ _
    | exact ih1 _ _ _ _
    | exact ih2 _ _ _
    | exact LeO.none _
    | refine LeO.ite ?_ ?_
    | refine LeO.bind ?_ (fun _ => ?_)
  · intro y0 y1 y2 y3
    unfold Z2.j2
    repeat' first
    | (with_reducible exact ih0 _ _ _)
    | (with_reducible exact ih1 _ _ _ _)
    | (with_reducible exact ih2 _ _ _)
    | (with_reducible exact LeO.refl _)
    | (with_reducible exact LeO.none _)
    | (with_reducible refine LeO.ite ?_ ?_)
    | (with_reducible refine LeO.bind ?_ (fun _ => ?_))
    | exact ih0 _ _ _
    | exact ih1 _ _ _ _
    | exact ih2 _ _ _
    | exact LeO.none _
    | refine LeO.ite ?_ ?_
    | refine LeO.bind ?_ (fun _ => ?_)
  · intro y0 y1 y2
    unfold Z2.l0
    repeat' first
    | (with_reducible exact ih0 _ _ _)
    | (with_reducible exact ih1 _ _ _ _)
    | (with_reducible exact ih2 _ _ _)
    | (with_reducible exact LeO.refl _)
    | (with_reducible exact LeO.none _)
    | (with_reducible refine LeO.ite ?_ ?_)
    | (with_reducible refine LeO.bind ?_ (fun _ => ?_))
    | exact ih0 _ _ _
    | exact ih1 _ _ _ _
    | exact ih2 _ _ _
    | exact LeO.none _
    | refine LeO.ite ?_ ?_
    | refine LeO.bind ?_ (fun _ => ?_)
theorem Z2.mono : ∀ a0 a1 k,LeO (Z2.f k a0 a1) (Z2.f (k + 1) a0 a1) := by
 intro a0 a1 k; obtain ⟨ih0,ih1,ih2⟩ := Z2.Xq k; unfold Z2.f
 repeat' first
  | (with_reducible exact ih0 _ _ _)
  | (with_reducible exact ih1 _ _ _ _)
  | (with_reducible exact ih2 _ _ _)
  | (with_reducible exact LeO.refl _)
  | (with_reducible exact LeO.none _)
  | (with_reducible refine LeO.ite ?_ ?_)
  | (with_reducible refine LeO.bind ?_ (fun _ => ?_))
  | exact ih0 _ _ _
  | exact ih1 _ _ _ _
  | exact ih2 _ _ _
  | exact LeO.none _
  | refine LeO.ite ?_ ?_
  | refine LeO.bind ?_ (fun _ => ?_)
set_option maxHeartbeats 8000000 in
set_option maxRecDepth 100000 in
theorem Z2.calls (k : Nat) (A0 : Option Addr) (c0 : Nat) (l0 : List (S56)) (a1 : Int) (r : Int) (w : World) (hr0 : Kd.C k56 w A0 l0.length l0) (hc0 : l0.length ≤ c0) (h : Z2.f k l0 a1 = some r) :
 Calls Try.prog 58 #[.slice A0 l0.length c0,.int .i64 a1] w fun e w' => e = .returned (.int .i64 r) ∧ Drawn0 w w' := by
 have HR0 := Zc.mk hr0; have HC0 := Zc.mk hc0; clear hr0 hc0; have H : (if 0 < (l0.length : Int) then (if a1 < ((Zg l0 0).f0) then (some ((Zg l0 0).f1)) else (Z2.l0 k l0 a1 0)) else (none)) = some r := h; clear h
 by_cases c3 : 0 < (l0.length : Int)
 · rw [if_pos c3] at H
   have c3b0 : decide (0 < (l0.length : Int)) = true := decide_eq_true c3; have c3b1 : decide (0 < l0.length) = true := decide_eq_true (by omega); clear c3
   by_cases c4 : a1 < ((Zg l0 0).f0)
   · rw [if_pos c4] at H
     have c4b0 : decide (a1 < ((Zg l0 0).f0)) = true := decide_eq_true c4; clear c4; obtain rfl := Option.some.inj H
     have p379 : 0 ≤ (0 : Int) := (by omega)
     have q379 : 0 < (l0.length : Int) := of_decide_eq_true (by first | (with_reducible assumption) | assumption); obtain ⟨ad379,e379,hx379_0,hx379_1,hx379_2⟩ := Xx HR0.out 0 p379 q379
     cases e379
     have qi379 : (0 < l0.length) = True := eq_true (by omega)
     (try rw [show ((0 : Int)).toNat = 0 from rfl] at hx379_0)
     (try rw [show 0 * 3 = 0 from rfl] at hx379_0)
     (try rw [Addr.add_zero'] at hx379_0)
     (try rw [show ((0 : Int)).toNat = 0 from rfl] at hx379_1)
     (try rw [show 0 * 3 = 0 from rfl] at hx379_1)
     (try rw [Addr.add_zero'] at hx379_1)
     (try rw [show ((0 : Int)).toNat = 0 from rfl] at hx379_2)
     (try rw [show 0 * 3 = 0 from rfl] at hx379_2)
     (try rw [Addr.add_zero'] at hx379_2)
     replace p379 := eq_true p379; replace q379 := eq_true q379
     have p380 : 0 ≤ (0 : Int) := (by omega)
     have q380 : 0 < (l0.length : Int) := of_decide_eq_true (by first | (with_reducible assumption) | assumption); obtain ⟨ad380,e380,hx380_0,hx380_1,hx380_2⟩ := Xx HR0.out 0 p380 q380
     obtain rfl : ad379 = ad380 := (by injection e380)
     have qi380 : (0 < l0.length) = True := eq_true (by omega)
     (try rw [show ((0 : Int)).toNat = 0 from rfl] at hx380_0)
     (try rw [show 0 * 3 = 0 from rfl] at hx380_0)
     (try rw [Addr.add_zero'] at hx380_0)
     (try rw [show ((0 : Int)).toNat = 0 from rfl] at hx380_1)
     (try rw [show 0 * 3 = 0 from rfl] at hx380_1)
     (try rw [Addr.add_zero'] at hx380_1)
     (try rw [show ((0 : Int)).toNat = 0 from rfl] at hx380_2)
     (try rw [show 0 * 3 = 0 from rfl] at hx380_2)
     (try rw [Addr.add_zero'] at hx380_2)
     replace p380 := eq_true p380; replace q380 := eq_true q380
     go_enter Try.func58,Try.ntmps58
     go_wp2
     repeat (go_quiet (fail); try go_wp2)
     go_ret; exact ⟨by first | rfl | (simp; done) | (simp [*]; done),by repeat (first | exact Drawn0.refl _ | apply Drawn0.step)⟩
   · rw [if_neg c4] at H
     have c4b0 : decide (a1 < ((Zg l0 0).f0)) = false := decide_eq_false c4; clear c4; have HC5 := Zc.mk H; clear H
     have p379 : 0 ≤ (0 : Int) := (by omega)
     have q379 : 0 < (l0.length : Int) := of_decide_eq_true (by first | (with_reducible assumption) | assumption); obtain ⟨ad379,e379,hx379_0,hx379_1,hx379_2⟩ := Xx HR0.out 0 p379 q379
     cases e379
     have qi379 : (0 < l0.length) = True := eq_true (by omega)
     (try rw [show ((0 : Int)).toNat = 0 from rfl] at hx379_0)
     (try rw [show 0 * 3 = 0 from rfl] at hx379_0)
     (try rw [Addr.add_zero'] at hx379_0)
     (try rw [show ((0 : Int)).toNat = 0 from rfl] at hx379_1)
     (try rw [show 0 * 3 = 0 from rfl] at hx379_1)
     (try rw [Addr.add_zero'] at hx379_1)
     (try rw [show ((0 : Int)).toNat = 0 from rfl] at hx379_2)
     (try rw [show 0 * 3 = 0 from rfl] at hx379_2)
     (try rw [Addr.add_zero'] at hx379_2)
     replace p379 := eq_true p379; replace q379 := eq_true q379
     go_enter Try.func58,Try.ntmps58
     go_upto_block 0 with (fail)
     repeat (go_quiet (fail); go_upto_block 0 with (fail))
     go_cut [5] (fun v5 wc => ∃ (kq : Nat) (x5_4 : Int),v5 = .int .i64 x5_4 ∧ Zc (Z2.j1 kq l0 a1 x5_4 = some r) ∧ Zc (kq ≤ k) ∧ Drawn0 w wc)
     case first =>
      have H := HC5.out; clear HC5; have H' := Zc.mk H; clear H
      go_wp2
      repeat (go_quiet (fail); try go_wp2)
      go_loopg [5] k (fun kq v5 w' => ∃ (x5_1 : Int),v5 = .int .i64 x5_1 ∧ Zc (Z2.l0 kq l0 a1 x5_1 = some r) ∧ Zc (kq ≤ k) ∧ Drawn0 w w')
      case atStart => exact ⟨(0),(by first | rfl | (simp; done) | (simp [*]; done)),H',⟨Nat.le_refl _⟩,by repeat (first | exact Drawn0.refl _ | apply Drawn0.step)⟩
      case round =>
       clear H'
       (try clear p2); (try clear c3); (try clear c3b0); (try clear c3b1); (try clear p3); (try clear q3); (try clear hx3); (try clear qi3); (try clear c4); (try clear c4b0); (try clear c5); (try clear hx379_0); (try clear hx379_1); (try clear hx379_2); (try clear hx380_0); (try clear hx380_1); (try clear hx380_2); (try clear p379); (try clear p380); (try clear q379); (try clear q380)
       obtain ⟨x5_1,rfl,HA,HK1,⟨m1,rfl⟩⟩ := hrel
       cases gk with
       | zero => exact absurd HA.out (by simp [Z2.l0])
       | succ k1 =>
        have H := HA.out; clear HA; simp only [Z2.l0] at H
        by_cases c6 : (wrap64 (x5_1 + 1)) < (l0.length : Int)
        · rw [if_pos c6] at H
          have c6b0 : decide ((wrap64 (x5_1 + 1)) < (l0.length : Int)) = true := decide_eq_true c6; clear c6
          (first | rw [c6b0] | (simp only [i64_w,i32_w]; rw [c6b0]) | skip)
          obtain ⟨ji7,hji7⟩ : ∃ j_ : Int,(wrap64 (x5_1 + 1)) = j_ := ⟨_,rfl⟩
          replace H : (if 0 ≤ (ji7) then (if ((Zg l0 (ji7)).f0) ≤ a1 then (Z2.l0 k1 l0 a1 ji7) else (Z2.j1 k1 l0 a1 x5_1)) else (none)) = some r := by first | (rw [hji7] at H; exact H) | (simp only [hji7] at H ⊢; exact H)
          (try rw [hji7] at c6b0)
          have hji7w : (IntKind.i64.wrap (x5_1 + 1)) = ji7 := (i64_w _).trans hji7
          by_cases c8 : 0 ≤ (ji7)
          · rw [if_pos c8] at H
            have c8b0 : decide (0 ≤ (ji7)) = true := decide_eq_true c8; clear c8
            by_cases c9 : ((Zg l0 (ji7)).f0) ≤ a1
            · rw [if_pos c9] at H
              have c9b0 : decide (((Zg l0 (ji7)).f0) ≤ a1) = true := decide_eq_true c9; clear c9; have H' := Zc.mk H; clear H; have p381 : 0 ≤ ((ji7) : Int) := of_decide_eq_true (by first | (with_reducible assumption) | assumption); have q381 : (ji7) < (l0.length : Int) := of_decide_eq_true (by first | (with_reducible assumption) | assumption); obtain ⟨ad381,e381,hx381_0,hx381_1,hx381_2⟩ := Xx HR0.out (ji7) p381 q381
              obtain rfl : ad379 = ad381 := (by injection e381)
              replace p381 := eq_true p381; replace q381 := eq_true q381
              go_wp2
              repeat (go_quiet (fail); try go_wp2)
              go_roundg k1
              case measure => have := HK1.out; omega
              case rel => exact ⟨(ji7),(by first | rfl | (simp; done) | (simp only [← hji7] <;> (first | rfl | simp)) | (simp [*]; done)),H',⟨by have := HK1.out; omega⟩,by repeat (first | exact Drawn0.refl _ | apply Drawn0.step)⟩
            · rw [if_neg c9] at H
              have c9b0 : decide (((Zg l0 (ji7)).f0) ≤ a1) = false := decide_eq_false c9; clear c9; have H' := Zc.mk H; clear H; have p381 : 0 ≤ ((ji7) : Int) := of_decide_eq_true (by first | (with_reducible assumption) | assumption); have q381 : (ji7) < (l0.length : Int) := of_decide_eq_true (by first | (with_reducible assumption) | assumption); obtain ⟨ad381,e381,hx381_0,hx381_1,hx381_2⟩ := Xx HR0.out (ji7) p381 q381
              obtain rfl : ad379 = ad381 := (by injection e381)
              replace p381 := eq_true p381; replace q381 := eq_true q381
              go_wp2
              repeat (go_quiet (fail); try go_wp2)
              go_meet
              case rel => exact ⟨_,(x5_1),(by first | rfl | (simp; done) | (simp [*]; done)),H',⟨by have := HK1.out; first | omega | exact Nat.le_refl _⟩,by repeat (first | exact Drawn0.refl _ | apply Drawn0.step)⟩
          · rw [if_neg c8] at H
            exact absurd H (by simp)
        · rw [if_neg c6] at H
          have c6b0 : decide ((wrap64 (x5_1 + 1)) < (l0.length : Int)) = false := decide_eq_false c6; clear c6
          (first | rw [c6b0] | (simp only [i64_w,i32_w]; rw [c6b0]) | skip)
          have H' := Zc.mk H; clear H
          go_wp2
          repeat (go_quiet (fail); try go_wp2)
          go_meet
          case rel => exact ⟨_,(x5_1),(by first | rfl | (simp; done) | (simp [*]; done)),H',⟨by have := HK1.out; first | omega | exact Nat.le_refl _⟩,by repeat (first | exact Drawn0.refl _ | apply Drawn0.step)⟩
     case rest =>
      clear HC5
      (try clear p2); (try clear c3); (try clear c3b0); (try clear c3b1); (try clear p3); (try clear q3); (try clear hx3); (try clear qi3); (try clear c4); (try clear c4b0); (try clear c5); (try clear c6); (try clear c6b0); (try clear p6); (try clear c8); (try clear c8b0); (try clear c9); (try clear c9b0); (try clear hx379_0); (try clear hx379_1); (try clear hx379_2); (try clear hx380_0); (try clear hx380_1); (try clear hx380_2); (try clear hx381_0); (try clear hx381_1); (try clear hx381_2); (try clear p2); (try clear p3); (try clear p379); (try clear p380); (try clear p381); (try clear q3); (try clear q379); (try clear q380); (try clear q381)
      obtain ⟨kq,x5_4,rfl,HA,HJ4,⟨mc4,rfl⟩⟩ := hcut
      cases kq with
      | zero => exact absurd HA.out (by simp [Z2.j1])
      | succ kj4 =>
       have H := HA.out; clear HA; simp only [Z2.j1] at H; have HC10 := Zc.mk H; clear H
       go_upto_region 6 with (fail)
       repeat (go_quiet (fail); go_upto_region 6 with (fail))
       go_cut [49] (fun v49 wc => ∃ (kq : Nat) (x49_9 : Bool),v49 = .bool x49_9 ∧ Zc (Z2.j2 kq l0 a1 x5_4 x49_9 = some r) ∧ Zc (kq ≤ kj4) ∧ Drawn0 w wc)
       case first =>
        have H := HC10.out; clear HC10
        by_cases c11 : x5_4 = (wrap64 ((l0.length : Int) - 1))
        · rw [if_pos c11] at H
          have c11b0 : (x5_4 == (wrap64 ((l0.length : Int) - 1))) = true := beq_iff_eq.mpr c11; have c11b1 : (x5_4 != (wrap64 ((l0.length : Int) - 1))) = false := bne_eq_false_iff_eq.mpr c11; clear c11
          (first | rw [c11b0] | (simp only [i64_w,i32_w]; rw [c11b0]) | skip)
          have H' := Zc.mk H; clear H
          go_wp2
          repeat (go_quiet (fail); try go_wp2)
          go_meet
          case rel => exact ⟨_,(true),(by first | rfl | (simp; done) | (simp [*]; done)),H',⟨by have := HJ4.out; first | omega | exact Nat.le_refl _⟩,by repeat (first | exact Drawn0.refl _ | apply Drawn0.step)⟩
        · rw [if_neg c11] at H
          have c11b0 : (x5_4 == (wrap64 ((l0.length : Int) - 1))) = false := beq_eq_false_iff_ne.mpr c11; have c11b1 : (x5_4 != (wrap64 ((l0.length : Int) - 1))) = true := bne_iff_ne.mpr c11
          (first | rw [c11b0] | (simp only [i64_w,i32_w]; rw [c11b0]) | skip)
          by_cases c12 : 0 ≤ x5_4
          · rw [if_pos c12] at H
            have c12b0 : decide (0 ≤ x5_4) = true := decide_eq_true c12; clear c12
            by_cases c13 : x5_4 < (l0.length : Int)
            · rw [if_pos c13] at H
              have c13b0 : decide (x5_4 < (l0.length : Int)) = true := decide_eq_true c13; clear c13; have H' := Zc.mk H; clear H; have p382 : 0 ≤ (x5_4 : Int) := of_decide_eq_true (by first | (with_reducible assumption) | assumption); have q382 : x5_4 < (l0.length : Int) := of_decide_eq_true (by first | (with_reducible assumption) | assumption); obtain ⟨ad382,e382,hx382_0,hx382_1,hx382_2⟩ := Xx HR0.out x5_4 p382 q382
              obtain rfl : ad379 = ad382 := (by injection e382)
              replace p382 := eq_true p382; replace q382 := eq_true q382
              go_wp2
              repeat (go_quiet (fail); try go_wp2)
              go_meet
              case rel => exact ⟨_,((((Zg l0 x5_4).f2) == 0)),(by first | rfl | (simp; done) | (simp [*]; done)),H',⟨by have := HJ4.out; first | omega | exact Nat.le_refl _⟩,by repeat (first | exact Drawn0.refl _ | apply Drawn0.step)⟩
            · rw [if_neg c13] at H
              exact absurd H (by simp)
          · rw [if_neg c12] at H
            exact absurd H (by simp)
       case rest =>
        clear HC10
        (try clear c1); (try clear p2); (try clear c3); (try clear c3b0); (try clear c3b1); (try clear p3); (try clear q3); (try clear hx3); (try clear qi3); (try clear c4); (try clear c4b0); (try clear c5); (try clear c6); (try clear c6b0); (try clear p6); (try clear c8); (try clear c8b0); (try clear c9); (try clear c9b0); (try clear c11); (try clear c11b0); (try clear c11b1); (try clear c12); (try clear c12b0); (try clear c13); (try clear c13b0); (try clear hx379_0); (try clear hx379_1); (try clear hx379_2); (try clear hx380_0); (try clear hx380_1); (try clear hx380_2); (try clear hx381_0); (try clear hx381_1); (try clear hx381_2); (try clear hx382_0); (try clear hx382_1); (try clear hx382_2); (try clear p2); (try clear p3); (try clear p379); (try clear p380); (try clear p381); (try clear p382); (try clear p6); (try clear q3); (try clear q379); (try clear q380); (try clear q381); (try clear q382)
        obtain ⟨kq,x49_9,rfl,HA,HJ9,⟨mc9,rfl⟩⟩ := hcut
        cases kq with
        | zero => exact absurd HA.out (by simp [Z2.j2])
        | succ kj9 =>
         have H := HA.out; clear HA; simp only [Z2.j2] at H
         by_cases c14 : x49_9 = true
         · subst c14
           have H1 : (if 0 ≤ x5_4 then (if x5_4 < (l0.length : Int) then (some ((Zg l0 x5_4).f1)) else (none)) else (none)) = some r := by rw [if_pos rfl] at H; exact H
           clear H; have H := H1; clear H1
           by_cases c15 : 0 ≤ x5_4
           · rw [if_pos c15] at H
             have c15b0 : decide (0 ≤ x5_4) = true := decide_eq_true c15; clear c15
             by_cases c16 : x5_4 < (l0.length : Int)
             · rw [if_pos c16] at H
               have c16b0 : decide (x5_4 < (l0.length : Int)) = true := decide_eq_true c16; clear c16; obtain rfl := Option.some.inj H; have p383 : 0 ≤ (x5_4 : Int) := of_decide_eq_true (by first | (with_reducible assumption) | assumption); have q383 : x5_4 < (l0.length : Int) := of_decide_eq_true (by first | (with_reducible assumption) | assumption); obtain ⟨ad383,e383,hx383_0,hx383_1,hx383_2⟩ := Xx HR0.out x5_4 p383 q383
               obtain rfl : ad379 = ad383 := (by injection e383)
               replace p383 := eq_true p383; replace q383 := eq_true q383
               go_wp2
               repeat (go_quiet (fail); try go_wp2)
               go_ret; exact ⟨by first | rfl | (simp; done) | (simp [*]; done),by repeat (first | exact Drawn0.refl _ | apply Drawn0.step)⟩
             · rw [if_neg c16] at H
               exact absurd H (by simp)
           · rw [if_neg c15] at H
             exact absurd H (by simp)
         · replace c14 := Bool.eq_false_iff.mpr c14
           subst c14
           have H1 : (if 0 ≤ x5_4 then (if x5_4 < (l0.length : Int) then (if 0 ≤ (wrap64 (x5_4 + 1)) then (if (wrap64 (x5_4 + 1)) < (l0.length : Int) then (if ((Zg l0 x5_4).f2) = 1 then ((ZF.f (wrap64 ((wrap64 (((Zg l0 (wrap64 (x5_4 + 1))).f1) - ((Zg l0 x5_4).f1))) * (wrap64 (a1 - ((Zg l0 x5_4).f0))))) (wrap64 (((Zg l0 (wrap64 (x5_4 + 1))).f0) - ((Zg l0 x5_4).f0)))).bind fun t390 => (some (wrap64 (((Zg l0 x5_4).f1) + t390)))) else ((ZF.f (wrap64 ((wrap64 (((Zg l0 (wrap64 (x5_4 + 1))).f1) - ((Zg l0 x5_4).f1))) * (wrap64 ((wrap64 ((wrap64 ((wrap64 (3 * (wrap64 (a1 - ((Zg l0 x5_4).f0))))) * (wrap64 (a1 - ((Zg l0 x5_4).f0))))) * (wrap64 (((Zg l0 (wrap64 (x5_4 + 1))).f0) - ((Zg l0 x5_4).f0))))) - (wrap64 ((wrap64 ((wrap64 (2 * (wrap64 (a1 - ((Zg l0 x5_4).f0))))) * (wrap64 (a1 - ((Zg l0 x5_4).f0))))) * (wrap64 (a1 - ((Zg l0 x5_4).f0))))))))) (wrap64 ((wrap64 ((wrap64 (((Zg l0 (wrap64 (x5_4 + 1))).f0) - ((Zg l0 x5_4).f0))) * (wrap64 (((Zg l0 (wrap64 (x5_4 + 1))).f0) - ((Zg l0 x5_4).f0))))) * (wrap64 (((Zg l0 (wrap64 (x5_4 + 1))).f0) - ((Zg l0 x5_4).f0)))))).bind fun t391 => (some (wrap64 (((Zg l0 x5_4).f1) + t391))))) else (none)) else (none)) else (none)) else (none)) = some r := by rw [if_neg (show ¬ (false = true) by decide)] at H; exact H
           clear H; have H := H1; clear H1
           by_cases c17 : 0 ≤ x5_4
           · rw [if_pos c17] at H
             have c17b0 : decide (0 ≤ x5_4) = true := decide_eq_true c17; clear c17
             by_cases c18 : x5_4 < (l0.length : Int)
             · rw [if_pos c18] at H
               have c18b0 : decide (x5_4 < (l0.length : Int)) = true := decide_eq_true c18; clear c18
               obtain ⟨ji19,hji19⟩ : ∃ j_ : Int,(wrap64 (x5_4 + 1)) = j_ := ⟨_,rfl⟩
               replace H : (if 0 ≤ (ji19) then (if (ji19) < (l0.length : Int) then (if ((Zg l0 x5_4).f2) = 1 then ((ZF.f (wrap64 ((wrap64 (((Zg l0 (ji19)).f1) - ((Zg l0 x5_4).f1))) * (wrap64 (a1 - ((Zg l0 x5_4).f0))))) (wrap64 (((Zg l0 (ji19)).f0) - ((Zg l0 x5_4).f0)))).bind fun t390 => (some (wrap64 (((Zg l0 x5_4).f1) + t390)))) else ((ZF.f (wrap64 ((wrap64 (((Zg l0 (ji19)).f1) - ((Zg l0 x5_4).f1))) * (wrap64 ((wrap64 ((wrap64 ((wrap64 (3 * (wrap64 (a1 - ((Zg l0 x5_4).f0))))) * (wrap64 (a1 - ((Zg l0 x5_4).f0))))) * (wrap64 (((Zg l0 (ji19)).f0) - ((Zg l0 x5_4).f0))))) - (wrap64 ((wrap64 ((wrap64 (2 * (wrap64 (a1 - ((Zg l0 x5_4).f0))))) * (wrap64 (a1 - ((Zg l0 x5_4).f0))))) * (wrap64 (a1 - ((Zg l0 x5_4).f0))))))))) (wrap64 ((wrap64 ((wrap64 (((Zg l0 (ji19)).f0) - ((Zg l0 x5_4).f0))) * (wrap64 (((Zg l0 (ji19)).f0) - ((Zg l0 x5_4).f0))))) * (wrap64 (((Zg l0 (ji19)).f0) - ((Zg l0 x5_4).f0)))))).bind fun t391 => (some (wrap64 (((Zg l0 x5_4).f1) + t391))))) else (none)) else (none)) = some r := by first | (rw [hji19] at H; exact H) | (simp only [hji19] at H ⊢; exact H)
               have hji19w : (IntKind.i64.wrap (x5_4 + 1)) = ji19 := (i64_w _).trans hji19
               by_cases c20 : 0 ≤ (ji19)
               · rw [if_pos c20] at H
                 have c20b0 : decide (0 ≤ (ji19)) = true := decide_eq_true c20; clear c20
                 by_cases c21 : (ji19) < (l0.length : Int)
                 · rw [if_pos c21] at H
                   have c21b0 : decide ((ji19) < (l0.length : Int)) = true := decide_eq_true c21; clear c21
                   by_cases c22 : ((Zg l0 x5_4).f2) = 1
                   · rw [if_pos c22] at H
                     have c22b0 : (((Zg l0 x5_4).f2) == 1) = true := beq_iff_eq.mpr c22; have c22b1 : (((Zg l0 x5_4).f2) != 1) = false := bne_eq_false_iff_eq.mpr c22; clear c22; replace H := Option.bind_eq_some_iff.mp H; obtain ⟨t390,A230,H⟩ := H; replace H : (some (wrap64 (((Zg l0 x5_4).f1) + t390))) = some r := H; have A23 := Zc.mk A230; clear A230; obtain rfl := Option.some.inj H; have p384 : 0 ≤ (x5_4 : Int) := of_decide_eq_true (by first | (with_reducible assumption) | assumption); have q384 : x5_4 < (l0.length : Int) := of_decide_eq_true (by first | (with_reducible assumption) | assumption); obtain ⟨ad384,e384,hx384_0,hx384_1,hx384_2⟩ := Xx HR0.out x5_4 p384 q384
                     obtain rfl : ad379 = ad384 := (by injection e384)
                     replace p384 := eq_true p384; replace q384 := eq_true q384; have p385 : 0 ≤ ((ji19) : Int) := of_decide_eq_true (by first | (with_reducible assumption) | assumption); have q385 : (ji19) < (l0.length : Int) := of_decide_eq_true (by first | (with_reducible assumption) | assumption); obtain ⟨ad385,e385,hx385_0,hx385_1,hx385_2⟩ := Xx HR0.out (ji19) p385 q385
                     obtain rfl : ad379 = ad385 := (by injection e385)
                     replace p385 := eq_true p385; replace q385 := eq_true q385; have p386 : 0 ≤ (x5_4 : Int) := of_decide_eq_true (by first | (with_reducible assumption) | assumption); have q386 : x5_4 < (l0.length : Int) := of_decide_eq_true (by first | (with_reducible assumption) | assumption); obtain ⟨ad386,e386,hx386_0,hx386_1,hx386_2⟩ := Xx HR0.out x5_4 p386 q386
                     obtain rfl : ad379 = ad386 := (by injection e386)
                     replace p386 := eq_true p386; replace q386 := eq_true q386; have p387 : 0 ≤ ((ji19) : Int) := of_decide_eq_true (by first | (with_reducible assumption) | assumption); have q387 : (ji19) < (l0.length : Int) := of_decide_eq_true (by first | (with_reducible assumption) | assumption); obtain ⟨ad387,e387,hx387_0,hx387_1,hx387_2⟩ := Xx HR0.out (ji19) p387 q387
                     obtain rfl : ad379 = ad387 := (by injection e387)
                     replace p387 := eq_true p387; replace q387 := eq_true q387; have p388 : 0 ≤ (x5_4 : Int) := of_decide_eq_true (by first | (with_reducible assumption) | assumption); have q388 : x5_4 < (l0.length : Int) := of_decide_eq_true (by first | (with_reducible assumption) | assumption); obtain ⟨ad388,e388,hx388_0,hx388_1,hx388_2⟩ := Xx HR0.out x5_4 p388 q388
                     obtain rfl : ad379 = ad388 := (by injection e388)
                     replace p388 := eq_true p388; replace q388 := eq_true q388; have p389 : 0 ≤ (x5_4 : Int) := of_decide_eq_true (by first | (with_reducible assumption) | assumption); have q389 : x5_4 < (l0.length : Int) := of_decide_eq_true (by first | (with_reducible assumption) | assumption); obtain ⟨ad389,e389,hx389_0,hx389_1,hx389_2⟩ := Xx HR0.out x5_4 p389 q389
                     obtain rfl : ad379 = ad389 := (by injection e389)
                     replace p389 := eq_true p389; replace q389 := eq_true q389
                     go_wp2_with (first | (go_at_call 45; (with_reducible refine (ZF.calls (wrap64 ((wrap64 (((Zg l0 (ji19)).f1) - ((Zg l0 x5_4).f1))) * (wrap64 (a1 - ((Zg l0 x5_4).f0))))) (wrap64 (((Zg l0 (ji19)).f0) - ((Zg l0 x5_4).f0))) t390 _ A23.out).mono ?_); rintro e w' ⟨rfl,⟨nd,rfl⟩⟩; (try first | exact ⟨rfl,_,World.drewN_drewN _ _ _⟩ | exact ⟨rfl,_,Eq.trans (World.drewN_drewN _ _ _) (congrArg (World.drewN _) (Nat.add_assoc _ _ _))⟩)))
                     repeat (go_quiet (first | (go_at_call 45; (with_reducible refine (ZF.calls (wrap64 ((wrap64 (((Zg l0 (ji19)).f1) - ((Zg l0 x5_4).f1))) * (wrap64 (a1 - ((Zg l0 x5_4).f0))))) (wrap64 (((Zg l0 (ji19)).f0) - ((Zg l0 x5_4).f0))) t390 _ A23.out).mono ?_); rintro e w' ⟨rfl,⟨nd,rfl⟩⟩; (try first | exact ⟨rfl,_,World.drewN_drewN _ _ _⟩ | exact ⟨rfl,_,Eq.trans (World.drewN_drewN _ _ _) (congrArg (World.drewN _) (Nat.add_assoc _ _ _))⟩))); try go_wp2_with (first | (go_at_call 45; (with_reducible refine (ZF.calls (wrap64 ((wrap64 (((Zg l0 (ji19)).f1) - ((Zg l0 x5_4).f1))) * (wrap64 (a1 - ((Zg l0 x5_4).f0))))) (wrap64 (((Zg l0 (ji19)).f0) - ((Zg l0 x5_4).f0))) t390 _ A23.out).mono ?_); rintro e w' ⟨rfl,⟨nd,rfl⟩⟩; (try first | exact ⟨rfl,_,World.drewN_drewN _ _ _⟩ | exact ⟨rfl,_,Eq.trans (World.drewN_drewN _ _ _) (congrArg (World.drewN _) (Nat.add_assoc _ _ _))⟩))))
                     go_ret; exact ⟨by first | rfl | (simp; done) | (simp only [← hji19] <;> (first | rfl | simp)) | (simp [*]; done),by repeat (first | exact Drawn0.refl _ | apply Drawn0.step)⟩
                   · rw [if_neg c22] at H
                     have c22b0 : (((Zg l0 x5_4).f2) == 1) = false := beq_eq_false_iff_ne.mpr c22; have c22b1 : (((Zg l0 x5_4).f2) != 1) = true := bne_iff_ne.mpr c22; replace H := Option.bind_eq_some_iff.mp H; obtain ⟨t391,A240,H⟩ := H; replace H : (some (wrap64 (((Zg l0 x5_4).f1) + t391))) = some r := H; have A24 := Zc.mk A240; clear A240; obtain rfl := Option.some.inj H; have p384 : 0 ≤ (x5_4 : Int) := of_decide_eq_true (by first | (with_reducible assumption) | assumption); have q384 : x5_4 < (l0.length : Int) := of_decide_eq_true (by first | (with_reducible assumption) | assumption); obtain ⟨ad384,e384,hx384_0,hx384_1,hx384_2⟩ := Xx HR0.out x5_4 p384 q384
                     obtain rfl : ad379 = ad384 := (by injection e384)
                     replace p384 := eq_true p384; replace q384 := eq_true q384; have p385 : 0 ≤ ((ji19) : Int) := of_decide_eq_true (by first | (with_reducible assumption) | assumption); have q385 : (ji19) < (l0.length : Int) := of_decide_eq_true (by first | (with_reducible assumption) | assumption); obtain ⟨ad385,e385,hx385_0,hx385_1,hx385_2⟩ := Xx HR0.out (ji19) p385 q385
                     obtain rfl : ad379 = ad385 := (by injection e385)
                     replace p385 := eq_true p385; replace q385 := eq_true q385; have p386 : 0 ≤ (x5_4 : Int) := of_decide_eq_true (by first | (with_reducible assumption) | assumption); have q386 : x5_4 < (l0.length : Int) := of_decide_eq_true (by first | (with_reducible assumption) | assumption); obtain ⟨ad386,e386,hx386_0,hx386_1,hx386_2⟩ := Xx HR0.out x5_4 p386 q386
                     obtain rfl : ad379 = ad386 := (by injection e386)
                     replace p386 := eq_true p386; replace q386 := eq_true q386; have p387 : 0 ≤ ((ji19) : Int) := of_decide_eq_true (by first | (with_reducible assumption) | assumption); have q387 : (ji19) < (l0.length : Int) := of_decide_eq_true (by first | (with_reducible assumption) | assumption); obtain ⟨ad387,e387,hx387_0,hx387_1,hx387_2⟩ := Xx HR0.out (ji19) p387 q387
                     obtain rfl : ad379 = ad387 := (by injection e387)
                     replace p387 := eq_true p387; replace q387 := eq_true q387; have p388 : 0 ≤ (x5_4 : Int) := of_decide_eq_true (by first | (with_reducible assumption) | assumption); have q388 : x5_4 < (l0.length : Int) := of_decide_eq_true (by first | (with_reducible assumption) | assumption); obtain ⟨ad388,e388,hx388_0,hx388_1,hx388_2⟩ := Xx HR0.out x5_4 p388 q388
                     obtain rfl : ad379 = ad388 := (by injection e388)
                     replace p388 := eq_true p388; replace q388 := eq_true q388; have p389 : 0 ≤ (x5_4 : Int) := of_decide_eq_true (by first | (with_reducible assumption) | assumption); have q389 : x5_4 < (l0.length : Int) := of_decide_eq_true (by first | (with_reducible assumption) | assumption); obtain ⟨ad389,e389,hx389_0,hx389_1,hx389_2⟩ := Xx HR0.out x5_4 p389 q389
                     obtain rfl : ad379 = ad389 := (by injection e389)
                     replace p389 := eq_true p389; replace q389 := eq_true q389
                     go_wp2_with (first | (go_at_call 45; (with_reducible refine (ZF.calls (wrap64 ((wrap64 (((Zg l0 (ji19)).f1) - ((Zg l0 x5_4).f1))) * (wrap64 ((wrap64 ((wrap64 ((wrap64 (3 * (wrap64 (a1 - ((Zg l0 x5_4).f0))))) * (wrap64 (a1 - ((Zg l0 x5_4).f0))))) * (wrap64 (((Zg l0 (ji19)).f0) - ((Zg l0 x5_4).f0))))) - (wrap64 ((wrap64 ((wrap64 (2 * (wrap64 (a1 - ((Zg l0 x5_4).f0))))) * (wrap64 (a1 - ((Zg l0 x5_4).f0))))) * (wrap64 (a1 - ((Zg l0 x5_4).f0))))))))) (wrap64 ((wrap64 ((wrap64 (((Zg l0 (ji19)).f0) - ((Zg l0 x5_4).f0))) * (wrap64 (((Zg l0 (ji19)).f0) - ((Zg l0 x5_4).f0))))) * (wrap64 (((Zg l0 (ji19)).f0) - ((Zg l0 x5_4).f0))))) t391 _ A24.out).mono ?_); rintro e w' ⟨rfl,⟨nd,rfl⟩⟩; (try first | exact ⟨rfl,_,World.drewN_drewN _ _ _⟩ | exact ⟨rfl,_,Eq.trans (World.drewN_drewN _ _ _) (congrArg (World.drewN _) (Nat.add_assoc _ _ _))⟩)))
                     repeat (go_quiet (first | (go_at_call 45; (with_reducible refine (ZF.calls (wrap64 ((wrap64 (((Zg l0 (ji19)).f1) - ((Zg l0 x5_4).f1))) * (wrap64 ((wrap64 ((wrap64 ((wrap64 (3 * (wrap64 (a1 - ((Zg l0 x5_4).f0))))) * (wrap64 (a1 - ((Zg l0 x5_4).f0))))) * (wrap64 (((Zg l0 (ji19)).f0) - ((Zg l0 x5_4).f0))))) - (wrap64 ((wrap64 ((wrap64 (2 * (wrap64 (a1 - ((Zg l0 x5_4).f0))))) * (wrap64 (a1 - ((Zg l0 x5_4).f0))))) * (wrap64 (a1 - ((Zg l0 x5_4).f0))))))))) (wrap64 ((wrap64 ((wrap64 (((Zg l0 (ji19)).f0) - ((Zg l0 x5_4).f0))) * (wrap64 (((Zg l0 (ji19)).f0) - ((Zg l0 x5_4).f0))))) * (wrap64 (((Zg l0 (ji19)).f0) - ((Zg l0 x5_4).f0))))) t391 _ A24.out).mono ?_); rintro e w' ⟨rfl,⟨nd,rfl⟩⟩; (try first | exact ⟨rfl,_,World.drewN_drewN _ _ _⟩ | exact ⟨rfl,_,Eq.trans (World.drewN_drewN _ _ _) (congrArg (World.drewN _) (Nat.add_assoc _ _ _))⟩))); try go_wp2_with (first | (go_at_call 45; (with_reducible refine (ZF.calls (wrap64 ((wrap64 (((Zg l0 (ji19)).f1) - ((Zg l0 x5_4).f1))) * (wrap64 ((wrap64 ((wrap64 ((wrap64 (3 * (wrap64 (a1 - ((Zg l0 x5_4).f0))))) * (wrap64 (a1 - ((Zg l0 x5_4).f0))))) * (wrap64 (((Zg l0 (ji19)).f0) - ((Zg l0 x5_4).f0))))) - (wrap64 ((wrap64 ((wrap64 (2 * (wrap64 (a1 - ((Zg l0 x5_4).f0))))) * (wrap64 (a1 - ((Zg l0 x5_4).f0))))) * (wrap64 (a1 - ((Zg l0 x5_4).f0))))))))) (wrap64 ((wrap64 ((wrap64 (((Zg l0 (ji19)).f0) - ((Zg l0 x5_4).f0))) * (wrap64 (((Zg l0 (ji19)).f0) - ((Zg l0 x5_4).f0))))) * (wrap64 (((Zg l0 (ji19)).f0) - ((Zg l0 x5_4).f0))))) t391 _ A24.out).mono ?_); rintro e w' ⟨rfl,⟨nd,rfl⟩⟩; (try first | exact ⟨rfl,_,World.drewN_drewN _ _ _⟩ | exact ⟨rfl,_,Eq.trans (World.drewN_drewN _ _ _) (congrArg (World.drewN _) (Nat.add_assoc _ _ _))⟩))))
                     go_ret; exact ⟨by first | rfl | (simp; done) | (simp only [← hji19] <;> (first | rfl | simp)) | (simp [*]; done),by repeat (first | exact Drawn0.refl _ | apply Drawn0.step)⟩
                 · rw [if_neg c21] at H
                   exact absurd H (by simp)
               · rw [if_neg c20] at H
                 exact absurd H (by simp)
             · rw [if_neg c18] at H
               exact absurd H (by simp)
           · rw [if_neg c17] at H
             exact absurd H (by simp)
 · rw [if_neg c3] at H
   exact absurd H (by simp)
end Go.Proofs.Ytomlfbmfdoallaa.PA

namespace Go.Proofs.Ytomlfbmfdoallaa.PA
open Go.RowKit Go.Proofs.YtomlfbmfdoallaaW.PrintWords Go.Proofs.YtomlfbmfdoallaaW.PrintLast Go.Proofs.YtomlfbmfdoallaaW.PrintMore
attribute [local go_sem] Xf Xg Xo Xn Xa ZZ Xh Xi
set_option linter.unusedVariables false
set_option linter.unusedSimpArgs false
mutual
def Zo.j0 : Nat → List (S56) → List (S27) → Int → Int → Int → Bool → Option (List Int × Int)
 | 0,_,_,_,_,_,_ => none
 | k + 1,x0,x1,x2,x3,x4,x21 => if x21 = true then (some (([] : List Int),1)) else ((Z8.f x2).bind fun t394 => (if t394 = true then (if x3 < x2 then (Zo.j1 k x0 x1 x2 x3 x4 true) else (if x3 > 1000000000 then (Zo.j1 k x0 x1 x2 x3 x4 true) else (if x4 < 0 then (Zo.j1 k x0 x1 x2 x3 x4 true) else (if x4 > 4096 then (Zo.j1 k x0 x1 x2 x3 x4 true) else (Zo.j1 k x0 x1 x2 x3 x4 (decide ((wrap64 ((wrap64 (x3 + x4)) - 1)) > 1000000000))))))) else (Zo.j1 k x0 x1 x2 x3 x4 true)))
def Zo.j1 : Nat → List (S56) → List (S27) → Int → Int → Int → Bool → Option (List Int × Int)
 | 0,_,_,_,_,_,_ => none
 | k + 1,x0,x1,x2,x3,x4,x48 => if x48 = true then (some (([] : List Int),7)) else (Zo.l0 k x0 x1 x2 x3 x4 ([] : List Int) 0)
def Zo.l0 : Nat → List (S56) → List (S27) → Int → Int → Int → List Int → Int → Option (List Int × Int)
 | 0,_,_,_,_,_,_,_ => none
 | k + 1,x0,x1,x2,x3,x4,x12,x13 => if x13 < x4 then ((Z5.f k x1 x2 (wrap64 (x3 + x13))).bind fun t395 => ((Z2.f k x0 t395).bind fun t396 => (if x12.length < 17592186044416 then (Zo.l0 k x0 x1 x2 x3 x4 (x12 ++ [t396]) (wrap64 (x13 + 1))) else (none)))) else (some (x12,0))
end
def Zo.f (k : Nat) (l0 : List (S56)) (l1 : List (S27)) (a2 : Int) (a3 : Int) (a4 : Int) : Option (List Int × Int) := (Zq.f k l0).bind fun t392 => (if t392 = true then ((Zh.f k l1).bind fun t393 => (Zo.j0 k l0 l1 a2 a3 a4 (!t393))) else (Zo.j0 k l0 l1 a2 a3 a4 true))
theorem Zo.Xq : ∀ k,(∀ y0 y1 y2 y3 y4 y5,LeO (Zo.j0 k y0 y1 y2 y3 y4 y5) (Zo.j0 (k + 1) y0 y1 y2 y3 y4 y5)) ∧ (∀ y0 y1 y2 y3 y4 y5,LeO (Zo.j1 k y0 y1 y2 y3 y4 y5) (Zo.j1 (k + 1) y0 y1 y2 y3 y4 y5)) ∧ (∀ y0 y1 y2 y3 y4 y5 y6,LeO (Zo.l0 k y0 y1 y2 y3 y4 y5 y6) (Zo.l0 (k + 1) y0 y1 y2 y3 y4 y5 y6))
 | 0 => ⟨fun _ _ _ _ _ _ r h => by simp [Zo.j0] at h,fun _ _ _ _ _ _ r h => by simp [Zo.j1] at h,fun _ _ _ _ _ _ _ r h => by simp [Zo.l0] at h⟩
 | k + 1 => by
  obtain ⟨ih0,ih1,ih2⟩ := Zo.Xq k; refine ⟨?_,?_,?_⟩
  · intro y0 y1 y2 y3 y4 y5
    unfold Zo.j0
    repeat' first
    | (with_reducible exact ih0 _ _ _ _ _ _)
    | (with_reducible exact ih1 _ _ _ _ _ _)
    | (with_reducible exact ih2 _ _ _ _ _ _ _)
    | (with_reducible exact Zh.mono _ _)
    | (with_reducible exact Zq.mono _ _)
    | (with_reducible exact Z5.mono _ _ _ _)
    | (with_reducible exact Z2.mono _ _ _)
    | (with_reducible exact LeO.refl _)
    | (with_reducible exact LeO.none _)
    | (with_reducible refine LeO.ite ?_ ?_)
    | (with_reducible refine LeO.bind ?_ (fun _ => ?_))
    | exact ih0 _ _ _ _ _ _
    | exact ih1 _ _ _ _ _ _
    | exact ih2 _ _ _ _ _ _ _
    | exact Zh.mono _ _
    | exact Zq.mono _ _
    | exact Z5.mono _ _ _ _
    | exact Z2.mono _ _ _
    | exact LeO.none _
    | refine LeO.ite ?_ ?_
    | refine LeO.bind ?_ (fun _ => ?_)
  · intro y0 y1 y2 y3 y4 y5
    unfold Zo.j1
    repeat' first
    | (with_reducible exact ih0 _ _ _ _ _ _)
    | (with_reducible exact ih1 _ _ _ _ _ _)
    | (with_reducible exact ih2 _ _ _ _ _ _ _)
    | (with_reducible exact Zh.mono _ _)
    | (with_reducible exact Zq.mono _ _)
    | (with_reducible exact Z5.mono _ _ _ _)
    | (with_reducible exact Z2.mono _ _ _)
    | (with_reducible exact LeO.refl _)
    | (with_reducible exact LeO.none _)
    | (with_reducible refine LeO.ite ?_ ?_)
    | (with_reducible refine LeO.bind ?_ (fun _ => ?_))
    | exact ih0 _ _ _ _ _ _
    | exact ih1 _ _ _ _ _ _
    | exact ih2 _ _ _ _ _ _ _
    | exact Zh.mono _ _
    | exact Zq.mono _ _
    | exact Z5.mono _ _ _ _
    | exact Z2.mono _ _ _
    | exact LeO.none _
    | refine LeO.ite ?_ ?_
    | refine LeO.bind ?_ (fun _ => ?_)
  · intro y0 y1 y2 y3 y4 y5 y6
    unfold Zo.l0
    repeat' first
    | (with_reducible exact ih0 _ _ _ _ _ _)
    | (with_reducible exact ih1 _ _ _ _ _ _)
    | (with_reducible exact ih2 _ _ _ _ _ _ _)
    | (with_reducible exact Zh.mono _ _)
    | (with_reducible exact Zq.mono _ _)
    | (with_reducible exact Z5.mono _ _ _ _)
    | (with_reducible exact Z2.mono _ _ _)
    | (with_reducible exact LeO.refl _)
    | (with_reducible exact LeO.none _)
    | (with_reducible refine LeO.ite ?_ ?_)
    | (with_reducible refine LeO.bind ?_ (fun _ => ?_))
    | exact ih0 _ _ _ _ _ _
    | exact ih1 _ _ _ _ _ _
    | exact ih2 _ _ _ _ _ _ _
    | exact Zh.mono _ _
    | exact Zq.mono _ _
    | exact Z5.mono _ _ _ _
    | exact Z2.mono _ _ _
    | exact LeO.none _
    | refine LeO.ite ?_ ?_
    | refine LeO.bind ?_ (fun _ => ?_)
theorem Zo.mono : ∀ a0 a1 a2 a3 a4 k,LeO (Zo.f k a0 a1 a2 a3 a4) (Zo.f (k + 1) a0 a1 a2 a3 a4) := by
 intro a0 a1 a2 a3 a4 k; obtain ⟨ih0,ih1,ih2⟩ := Zo.Xq k; unfold Zo.f
 repeat' first
  | (with_reducible exact ih0 _ _ _ _ _ _)
  | (with_reducible exact ih1 _ _ _ _ _ _)
  | (with_reducible exact ih2 _ _ _ _ _ _ _)
  | (with_reducible exact Zh.mono _ _)
  | (with_reducible exact Zq.mono _ _)
  | (with_reducible exact Z5.mono _ _ _ _)
  | (with_reducible exact Z2.mono _ _ _)
  | (with_reducible exact LeO.refl _)
  | (with_reducible exact LeO.none _)
  | (with_reducible refine LeO.ite ?_ ?_)
  | (with_reducible refine LeO.bind ?_ (fun _ => ?_))
  | exact ih0 _ _ _ _ _ _
  | exact ih1 _ _ _ _ _ _
  | exact ih2 _ _ _ _ _ _ _
  | exact Zh.mono _ _
  | exact Zq.mono _ _
  | exact Z5.mono _ _ _ _
  | exact Z2.mono _ _ _
  | exact LeO.none _
  | refine LeO.ite ?_ ?_
  | refine LeO.bind ?_ (fun _ => ?_)
set_option maxHeartbeats 8000000 in
set_option maxRecDepth 100000 in
theorem Zo.calls (k : Nat) (A0 : Option Addr) (c0 : Nat) (l0 : List (S56)) (A1 : Option Addr) (c1 : Nat) (l1 : List (S27)) (a2 : Int) (a3 : Int) (a4 : Int) (r1 : List Int) (r2 : Int) (w : World) (hr0 : Kd.C k56 w A0 l0.length l0) (hc0 : l0.length ≤ c0) (hr1 : Kd.C k27 w A1 l1.length l1) (hc1 : l1.length ≤ c1) (h : Zo.f k l0 l1 a2 a3 a4 = some (r1,r2)) :
 Calls Try.prog 33 #[.slice A0 l0.length c0,.slice A1 l1.length c1,.int .i64 a2,.int .i64 a3,.int .i64 a4] w fun e w' => ∃ v0_ : Value,e = .returned (.tuple #[v0_,.int .i64 r2]) ∧ Kd.R (Kd.int .i64) 3 w' w.heap.size (fun _ => True) v0_ r1 ∧ Below w.heap.size w w' := by
 have HR0 := Zc.mk hr0; have HC0 := Zc.mk hc0; clear hr0 hc0; have HR1 := Zc.mk hr1; have HC1 := Zc.mk hc1; clear hr1 hc1; have HB := Zc.mk (Below.refl w.heap.size w); have H : ((Zq.f k l0).bind fun t392 => (if t392 = true then ((Zh.f k l1).bind fun t393 => (Zo.j0 k l0 l1 a2 a3 a4 (!t393))) else (Zo.j0 k l0 l1 a2 a3 a4 true))) = some (r1,r2) := h; clear h; have HC6 := Zc.mk H; clear H
 go_enter Try.func33,Try.ntmps33
 go_upto_region 1 with (fail)
 go_cut [21] (fun v21 wc => ∃ (kq : Nat) (x21_5 : Bool),v21 = .bool x21_5 ∧ Zc (Zo.j0 kq l0 l1 a2 a3 a4 x21_5 = some (r1,r2)) ∧ Zc (kq ≤ k) ∧ Zc (Below w.heap.size w wc))
 case first =>
  have H := HC6.out; clear HC6; replace H := Option.bind_eq_some_iff.mp H; obtain ⟨t392,A70,H⟩ := H; replace H : (if t392 = true then ((Zh.f k l1).bind fun t393 => (Zo.j0 k l0 l1 a2 a3 a4 (!t393))) else (Zo.j0 k l0 l1 a2 a3 a4 true)) = some (r1,r2) := H; have A7 := Zc.mk A70; clear A70
  by_cases c8 : t392 = true
  · subst c8
    have H1 : ((Zh.f k l1).bind fun t393 => (Zo.j0 k l0 l1 a2 a3 a4 (!t393))) = some (r1,r2) := by rw [if_pos rfl] at H; exact H
    clear H; have H := H1; clear H1; replace H := Option.bind_eq_some_iff.mp H; obtain ⟨t393,A90,H⟩ := H; replace H : (Zo.j0 k l0 l1 a2 a3 a4 (!t393)) = some (r1,r2) := H; have A9 := Zc.mk A90; clear A90; have H' := Zc.mk H; clear H
    go_wp2_with (first | ((with_reducible refine Z1 (f := 37) rfl ?_); refine ZQ (some 15) rfl rfl Try.func37 (by kernel_rfl) rfl #[.slice A0 l0.length c0] rfl (by (try simp only [List.map_toArray,List.map_cons,List.map_nil]); first | done | rfl | (simp only [List.length_drop,List.length_take]; rfl)) ?_; (with_reducible refine (Zq.calls k _ _ l0 true _ ?side1 ?side2 A7.out).mono ?_); (case side1 => repeat (first | exact (Kd.ZO HR0.out HB.out) | (with_reducible refine Kd.ZA ?_ _) | (with_reducible refine Kd.Z9 ?_ _) | (with_reducible refine Kd.ZI ?_))); (case side2 => exact HC0.out); rintro e w10 ⟨rfl,hb⟩; refine ⟨_,rfl,?_⟩; have n0_ := Zc.mk (Z3 (by repeat (first | (with_reducible first | exact HB.out | apply Zd | apply Za | apply Zb) | exact HB.out)) hb); clear HB; have HB := n0_; clear n0_; (try clear hb); (try clear hb2); (try clear hk); (try clear hi)) | (go_at_call 11; (with_reducible refine (Zh.calls k _ _ l1 t393 _ ?side1 ?side2 A9.out).mono ?_); (case side1 => repeat (first | exact (Kd.ZO HR1.out HB.out) | (with_reducible refine Kd.ZA ?_ _) | (with_reducible refine Kd.Z9 ?_ _) | (with_reducible refine Kd.ZI ?_))); (case side2 => exact HC1.out); rintro e w11 ⟨rfl,hb⟩; have n0_ := Zc.mk (Z3 (by repeat (first | (with_reducible first | exact HB.out | apply Zd | apply Za | apply Zb) | exact HB.out)) hb); clear HB; have HB := n0_; clear n0_; (try clear hb); (try clear hb2); (try clear hk); (try clear hi)))
    go_meet
    case rel => exact ⟨_,(!t393),(by first | rfl | (simp; done) | (simp [*]; done)),H',⟨by first | omega | exact Nat.le_refl _⟩,⟨by repeat (first | (with_reducible first | exact HB.out | apply Zd | apply Za | apply Zb) | exact HB.out)⟩⟩
  · replace c8 := Bool.eq_false_iff.mpr c8
    subst c8
    have H1 : (Zo.j0 k l0 l1 a2 a3 a4 true) = some (r1,r2) := by rw [if_neg (show ¬ (false = true) by decide)] at H; exact H
    clear H; have H := H1; clear H1; have H' := Zc.mk H; clear H
    go_wp2_with (first | ((with_reducible refine Z1 (f := 37) rfl ?_); refine ZQ (some 15) rfl rfl Try.func37 (by kernel_rfl) rfl #[.slice A0 l0.length c0] rfl (by (try simp only [List.map_toArray,List.map_cons,List.map_nil]); first | done | rfl | (simp only [List.length_drop,List.length_take]; rfl)) ?_; (with_reducible refine (Zq.calls k _ _ l0 false _ ?side1 ?side2 A7.out).mono ?_); (case side1 => repeat (first | exact (Kd.ZO HR0.out HB.out) | (with_reducible refine Kd.ZA ?_ _) | (with_reducible refine Kd.Z9 ?_ _) | (with_reducible refine Kd.ZI ?_))); (case side2 => exact HC0.out); rintro e w12 ⟨rfl,hb⟩; refine ⟨_,rfl,?_⟩; have n0_ := Zc.mk (Z3 (by repeat (first | (with_reducible first | exact HB.out | apply Zd | apply Za | apply Zb) | exact HB.out)) hb); clear HB; have HB := n0_; clear n0_; (try clear hb); (try clear hb2); (try clear hk); (try clear hi)))
    go_meet
    case rel => exact ⟨_,(true),(by first | rfl | (simp; done) | (simp [*]; done)),H',⟨by first | omega | exact Nat.le_refl _⟩,⟨by repeat (first | (with_reducible first | exact HB.out | apply Zd | apply Za | apply Zb) | exact HB.out)⟩⟩
 case rest =>
  clear HC6
  (try clear c1); (try clear p2); (try clear c3); (try clear c8)
  obtain ⟨kq,x21_5,rfl,HA,HJ5,HB⟩ := hcut
  cases kq with
  | zero => exact absurd HA.out (by simp [Zo.j0])
  | succ kj5 =>
   have H := HA.out; clear HA; simp only [Zo.j0] at H
   by_cases c13 : x21_5 = true
   · subst c13
     have H1 : (some (([] : List Int),1)) = some (r1,r2) := by rw [if_pos rfl] at H; exact H
     clear H; have H := H1; clear H1; simp only [Option.some.injEq,Prod.mk.injEq] at H; obtain ⟨rfl,rfl⟩ := H
     go_wp2
     go_ret2
     exact ⟨_,by first | rfl | (simp [Zv,Zu] <;> rfl) | (simp [*,Zv,Zu] <;> rfl),by first | exact Kd.R_nil _ _ _ _ _ | exact Kd.N_nil _ _ _ _ _ | exact Kd.V_nil _ _ _ _ _ | exact Kd.Q_nil _ _ _ _ _ | exact Kd.S_nil _ _ _ _ _,by repeat (first | (with_reducible first | exact HB.out | apply Zd | apply Za | apply Zb) | exact HB.out)⟩
   · replace c13 := Bool.eq_false_iff.mpr c13
     subst c13
     have H1 : ((Z8.f a2).bind fun t394 => (if t394 = true then (if a3 < a2 then (Zo.j1 kj5 l0 l1 a2 a3 a4 true) else (if a3 > 1000000000 then (Zo.j1 kj5 l0 l1 a2 a3 a4 true) else (if a4 < 0 then (Zo.j1 kj5 l0 l1 a2 a3 a4 true) else (if a4 > 4096 then (Zo.j1 kj5 l0 l1 a2 a3 a4 true) else (Zo.j1 kj5 l0 l1 a2 a3 a4 (decide ((wrap64 ((wrap64 (a3 + a4)) - 1)) > 1000000000))))))) else (Zo.j1 kj5 l0 l1 a2 a3 a4 true))) = some (r1,r2) := by rw [if_neg (show ¬ (false = true) by decide)] at H; exact H
     clear H; have H := H1; clear H1; have HC14 := Zc.mk H; clear H
     go_upto_region 3 with (fail)
     go_cut [48] (fun v48 wc => ∃ (kq : Nat) (x48_13 : Bool),v48 = .bool x48_13 ∧ Zc (Zo.j1 kq l0 l1 a2 a3 a4 x48_13 = some (r1,r2)) ∧ Zc (kq ≤ kj5) ∧ Zc (Below w.heap.size w wc))
     case first =>
      have H := HC14.out; clear HC14; replace H := Option.bind_eq_some_iff.mp H; obtain ⟨t394,A150,H⟩ := H; replace H : (if t394 = true then (if a3 < a2 then (Zo.j1 kj5 l0 l1 a2 a3 a4 true) else (if a3 > 1000000000 then (Zo.j1 kj5 l0 l1 a2 a3 a4 true) else (if a4 < 0 then (Zo.j1 kj5 l0 l1 a2 a3 a4 true) else (if a4 > 4096 then (Zo.j1 kj5 l0 l1 a2 a3 a4 true) else (Zo.j1 kj5 l0 l1 a2 a3 a4 (decide ((wrap64 ((wrap64 (a3 + a4)) - 1)) > 1000000000))))))) else (Zo.j1 kj5 l0 l1 a2 a3 a4 true)) = some (r1,r2) := H; have A15 := Zc.mk A150; clear A150
      by_cases c16 : t394 = true
      · subst c16
        have H1 : (if a3 < a2 then (Zo.j1 kj5 l0 l1 a2 a3 a4 true) else (if a3 > 1000000000 then (Zo.j1 kj5 l0 l1 a2 a3 a4 true) else (if a4 < 0 then (Zo.j1 kj5 l0 l1 a2 a3 a4 true) else (if a4 > 4096 then (Zo.j1 kj5 l0 l1 a2 a3 a4 true) else (Zo.j1 kj5 l0 l1 a2 a3 a4 (decide ((wrap64 ((wrap64 (a3 + a4)) - 1)) > 1000000000))))))) = some (r1,r2) := by rw [if_pos rfl] at H; exact H
        clear H; have H := H1; clear H1
        by_cases c17 : a3 < a2
        · rw [if_pos c17] at H
          have c17b0 : decide (a3 < a2) = true := decide_eq_true c17; clear c17
          (first | rw [c17b0] | (simp only [i64_w,i32_w]; rw [c17b0]) | skip)
          have H' := Zc.mk H; clear H
          go_wp2_with (first | ((with_reducible refine Z1 (f := 50) rfl ?_); refine ZQ (some 23) rfl rfl Try.func50 (by kernel_rfl) rfl #[.int .i64 a2] rfl (by (try simp only [List.map_toArray,List.map_cons,List.map_nil]); first | done | rfl | (simp only [List.length_drop,List.length_take]; rfl)) ?_; (with_reducible refine (Z8.calls a2 true _ A15.out).mono ?_); rintro e w' ⟨rfl,⟨nd,rfl⟩⟩; refine ⟨_,rfl,?_⟩))
          go_meet
          case rel => exact ⟨_,(true),(by first | rfl | (simp; done) | (simp [*]; done)),H',⟨by have := HJ5.out; first | omega | exact Nat.le_refl _⟩,⟨by repeat (first | (with_reducible first | exact HB.out | apply Zd | apply Za | apply Zb) | exact HB.out)⟩⟩
        · rw [if_neg c17] at H
          have c17b0 : decide (a3 < a2) = false := decide_eq_false c17; clear c17
          (first | rw [c17b0] | (simp only [i64_w,i32_w]; rw [c17b0]) | skip)
          by_cases c18 : a3 > 1000000000
          · rw [if_pos c18] at H
            have c18b0 : decide (1000000000 < a3) = true := decide_eq_true c18; clear c18; have H' := Zc.mk H; clear H
            go_wp2_with (first | ((with_reducible refine Z1 (f := 50) rfl ?_); refine ZQ (some 23) rfl rfl Try.func50 (by kernel_rfl) rfl #[.int .i64 a2] rfl (by (try simp only [List.map_toArray,List.map_cons,List.map_nil]); first | done | rfl | (simp only [List.length_drop,List.length_take]; rfl)) ?_; (with_reducible refine (Z8.calls a2 true _ A15.out).mono ?_); rintro e w' ⟨rfl,⟨nd,rfl⟩⟩; refine ⟨_,rfl,?_⟩))
            go_meet
            case rel => exact ⟨_,(true),(by first | rfl | (simp; done) | (simp [*]; done)),H',⟨by have := HJ5.out; first | omega | exact Nat.le_refl _⟩,⟨by repeat (first | (with_reducible first | exact HB.out | apply Zd | apply Za | apply Zb) | exact HB.out)⟩⟩
          · rw [if_neg c18] at H
            have c18b0 : decide (1000000000 < a3) = false := decide_eq_false c18; clear c18
            by_cases c19 : a4 < 0
            · rw [if_pos c19] at H
              have c19b0 : decide (a4 < 0) = true := decide_eq_true c19; clear c19; have H' := Zc.mk H; clear H
              go_wp2_with (first | ((with_reducible refine Z1 (f := 50) rfl ?_); refine ZQ (some 23) rfl rfl Try.func50 (by kernel_rfl) rfl #[.int .i64 a2] rfl (by (try simp only [List.map_toArray,List.map_cons,List.map_nil]); first | done | rfl | (simp only [List.length_drop,List.length_take]; rfl)) ?_; (with_reducible refine (Z8.calls a2 true _ A15.out).mono ?_); rintro e w' ⟨rfl,⟨nd,rfl⟩⟩; refine ⟨_,rfl,?_⟩))
              go_meet
              case rel => exact ⟨_,(true),(by first | rfl | (simp; done) | (simp [*]; done)),H',⟨by have := HJ5.out; first | omega | exact Nat.le_refl _⟩,⟨by repeat (first | (with_reducible first | exact HB.out | apply Zd | apply Za | apply Zb) | exact HB.out)⟩⟩
            · rw [if_neg c19] at H
              have c19b0 : decide (a4 < 0) = false := decide_eq_false c19; clear c19
              by_cases c20 : a4 > 4096
              · rw [if_pos c20] at H
                have c20b0 : decide (4096 < a4) = true := decide_eq_true c20; clear c20; have H' := Zc.mk H; clear H
                go_wp2_with (first | ((with_reducible refine Z1 (f := 50) rfl ?_); refine ZQ (some 23) rfl rfl Try.func50 (by kernel_rfl) rfl #[.int .i64 a2] rfl (by (try simp only [List.map_toArray,List.map_cons,List.map_nil]); first | done | rfl | (simp only [List.length_drop,List.length_take]; rfl)) ?_; (with_reducible refine (Z8.calls a2 true _ A15.out).mono ?_); rintro e w' ⟨rfl,⟨nd,rfl⟩⟩; refine ⟨_,rfl,?_⟩))
                go_meet
                case rel => exact ⟨_,(true),(by first | rfl | (simp; done) | (simp [*]; done)),H',⟨by have := HJ5.out; first | omega | exact Nat.le_refl _⟩,⟨by repeat (first | (with_reducible first | exact HB.out | apply Zd | apply Za | apply Zb) | exact HB.out)⟩⟩
              · rw [if_neg c20] at H
                have c20b0 : decide (4096 < a4) = false := decide_eq_false c20; clear c20; have H' := Zc.mk H; clear H
                go_wp2_with (first | ((with_reducible refine Z1 (f := 50) rfl ?_); refine ZQ (some 23) rfl rfl Try.func50 (by kernel_rfl) rfl #[.int .i64 a2] rfl (by (try simp only [List.map_toArray,List.map_cons,List.map_nil]); first | done | rfl | (simp only [List.length_drop,List.length_take]; rfl)) ?_; (with_reducible refine (Z8.calls a2 true _ A15.out).mono ?_); rintro e w' ⟨rfl,⟨nd,rfl⟩⟩; refine ⟨_,rfl,?_⟩))
                go_meet
                case rel => exact ⟨_,(decide ((wrap64 ((wrap64 (a3 + a4)) - 1)) > 1000000000)),(by first | rfl | (simp; done) | (simp [*]; done)),H',⟨by have := HJ5.out; first | omega | exact Nat.le_refl _⟩,⟨by repeat (first | (with_reducible first | exact HB.out | apply Zd | apply Za | apply Zb) | exact HB.out)⟩⟩
      · replace c16 := Bool.eq_false_iff.mpr c16
        subst c16
        have H1 : (Zo.j1 kj5 l0 l1 a2 a3 a4 true) = some (r1,r2) := by rw [if_neg (show ¬ (false = true) by decide)] at H; exact H
        clear H; have H := H1; clear H1; have H' := Zc.mk H; clear H
        go_wp2_with (first | ((with_reducible refine Z1 (f := 50) rfl ?_); refine ZQ (some 23) rfl rfl Try.func50 (by kernel_rfl) rfl #[.int .i64 a2] rfl (by (try simp only [List.map_toArray,List.map_cons,List.map_nil]); first | done | rfl | (simp only [List.length_drop,List.length_take]; rfl)) ?_; (with_reducible refine (Z8.calls a2 false _ A15.out).mono ?_); rintro e w' ⟨rfl,⟨nd,rfl⟩⟩; refine ⟨_,rfl,?_⟩))
        go_meet
        case rel => exact ⟨_,(true),(by first | rfl | (simp; done) | (simp [*]; done)),H',⟨by have := HJ5.out; first | omega | exact Nat.le_refl _⟩,⟨by repeat (first | (with_reducible first | exact HB.out | apply Zd | apply Za | apply Zb) | exact HB.out)⟩⟩
     case rest =>
      clear HC14
      (try clear c1); (try clear c2); (try clear p2); (try clear c3); (try clear c5); (try clear p6); (try clear c8); (try clear c13); (try clear c16); (try clear c17); (try clear c17b0); (try clear c18); (try clear c18b0); (try clear c19); (try clear c19b0); (try clear c20); (try clear c20b0); (try clear p2)
      obtain ⟨kq,x48_13,rfl,HA,HJ13,HB⟩ := hcut
      cases kq with
      | zero => exact absurd HA.out (by simp [Zo.j1])
      | succ kj13 =>
       have H := HA.out; clear HA; simp only [Zo.j1] at H
       by_cases c21 : x48_13 = true
       · subst c21
         have H1 : (some (([] : List Int),7)) = some (r1,r2) := by rw [if_pos rfl] at H; exact H
         clear H; have H := H1; clear H1; simp only [Option.some.injEq,Prod.mk.injEq] at H; obtain ⟨rfl,rfl⟩ := H
         go_wp2
         go_ret2
         exact ⟨_,by first | rfl | (simp [Zv,Zu] <;> rfl) | (simp [*,Zv,Zu] <;> rfl),by first | exact Kd.R_nil _ _ _ _ _ | exact Kd.N_nil _ _ _ _ _ | exact Kd.V_nil _ _ _ _ _ | exact Kd.Q_nil _ _ _ _ _ | exact Kd.S_nil _ _ _ _ _,by repeat (first | (with_reducible first | exact HB.out | apply Zd | apply Za | apply Zb) | exact HB.out)⟩
       · replace c21 := Bool.eq_false_iff.mpr c21
         subst c21
         have H1 : (Zo.l0 kj13 l0 l1 a2 a3 a4 ([] : List Int) 0) = some (r1,r2) := by rw [if_neg (show ¬ (false = true) by decide)] at H; exact H
         clear H; have H := H1; clear H1; have H' := Zc.mk H; clear H
         go_wp2
         go_loopg [12,13] kj13 (fun kq v12 v13 w' => ∃ (x12_3 : List Int) (x13_3 : Int),v13 = .int .i64 x13_3 ∧ Zc (Zo.l0 kq l0 l1 a2 a3 a4 x12_3 x13_3 = some (r1,r2)) ∧ Zc (kq ≤ kj13) ∧ Zc (Kd.R (Kd.int .i64) 3 w' w.heap.size (fun _ => True) v12 x12_3) ∧ Zc (Below w.heap.size w w'))
         case atStart => exact ⟨(([] : List Int)),(0),(by first | rfl | (simp; done) | (simp [*]; done)),H',⟨Nat.le_refl _⟩,⟨by first | exact Kd.R_nil _ _ _ _ _ | exact Kd.N_nil _ _ _ _ _ | exact Kd.V_nil _ _ _ _ _ | exact Kd.Q_nil _ _ _ _ _ | exact Kd.S_nil _ _ _ _ _⟩,⟨by repeat (first | (with_reducible first | exact HB.out | apply Zd | apply Za | apply Zb) | exact HB.out)⟩⟩
         case round =>
          clear H'
          (try clear c1); (try clear c2); (try clear p2); (try clear c3); (try clear c5); (try clear p6); (try clear c8); (try clear c13); (try clear c16); (try clear c17); (try clear c17b0); (try clear c18); (try clear c18b0); (try clear c19); (try clear c19b0); (try clear c20); (try clear c20b0); (try clear c21); (try clear p2); (try clear p6)
          obtain ⟨x12_3,x13_3,rfl,HA,HK3,HO_12,HB⟩ := hrel
          cases gk with
          | zero => exact absurd HA.out (by simp [Zo.l0])
          | succ k3 =>
           have H := HA.out; clear HA; simp only [Zo.l0] at H
           by_cases c22 : x13_3 < a4
           · rw [if_pos c22] at H
             have c22b0 : decide (x13_3 < a4) = true := decide_eq_true c22; clear c22; replace H := Option.bind_eq_some_iff.mp H; obtain ⟨t395,A230,H⟩ := H; replace H : ((Z2.f k3 l0 t395).bind fun t396 => (if x12_3.length < 17592186044416 then (Zo.l0 k3 l0 l1 a2 a3 a4 (x12_3 ++ [t396]) (wrap64 (x13_3 + 1))) else (none))) = some (r1,r2) := H; have A23 := Zc.mk A230; clear A230; replace H := Option.bind_eq_some_iff.mp H; obtain ⟨t396,A240,H⟩ := H; replace H : (if x12_3.length < 17592186044416 then (Zo.l0 k3 l0 l1 a2 a3 a4 (x12_3 ++ [t396]) (wrap64 (x13_3 + 1))) else (none)) = some (r1,r2) := H; have A24 := Zc.mk A240; clear A240
             by_cases c25 : x12_3.length < 17592186044416
             · rw [if_pos c25] at H
               have LMc25 := Zc.mk c25; clear c25
               obtain ⟨y397,hy397⟩ : ∃ y_ : List Int,y_ = (x12_3 ++ [t396]) := ⟨_,rfl⟩
               replace H : (Zo.l0 k3 l0 l1 a2 a3 a4 y397 (wrap64 (x13_3 + 1))) = some (r1,r2) := by first | (rw [hy397]; with_reducible exact H) | (have H2_ := (Option.bind_some _ _).symm.trans H; rw [hy397]; with_reducible exact H2_) | (have H2_ := (Option.bind_some _ _).symm.trans H; with_reducible exact H2_) | with_reducible exact H | (rw [hy397]; exact H) | exact H
               have Ny397 := Zc.mk hy397; clear hy397; have H' := Zc.mk H; clear H
               go_wp2_with (first | ((with_reducible refine Z1 (f := 55) rfl ?_); refine ZQ (some 61) rfl rfl Try.func55 (by kernel_rfl) rfl #[.slice A1 l1.length c1,.int .i64 a2,.int .i64 (wrap64 (a3 + x13_3))] rfl (by (try simp only [List.map_toArray,List.map_cons,List.map_nil]); first | done | rfl | (simp only [List.length_drop,List.length_take]; rfl)) ?_; (with_reducible refine (Z5.calls k3 _ _ l1 a2 (wrap64 (a3 + x13_3)) t395 _ ?side1 ?side2 A23.out).mono ?_); (case side1 => repeat (first | exact (Kd.ZO HR1.out HB.out) | (with_reducible refine Kd.ZA ?_ _) | (with_reducible refine Kd.Z9 ?_ _) | (with_reducible refine Kd.ZI ?_))); (case side2 => exact HC1.out); rintro e w' ⟨rfl,⟨nd,rfl⟩⟩; refine ⟨_,rfl,?_⟩) | ((with_reducible refine Z1 (f := 58) rfl ?_); refine ZQ (some 62) rfl rfl Try.func58 (by kernel_rfl) rfl #[.slice A0 l0.length c0,.int .i64 t395] rfl (by (try simp only [List.map_toArray,List.map_cons,List.map_nil]); first | done | rfl | (simp only [List.length_drop,List.length_take]; rfl)) ?_; (with_reducible refine (Z2.calls k3 _ _ l0 t395 t396 _ ?side1 ?side2 A24.out).mono ?_); (case side1 => repeat (first | exact (Kd.ZO HR0.out (by repeat (first | (with_reducible first | exact HB.out | apply Zd | apply Za | apply Zb) | exact HB.out))) | (with_reducible refine Kd.ZA ?_ _) | (with_reducible refine Kd.Z9 ?_ _) | (with_reducible refine Kd.ZI ?_))); (case side2 => exact HC0.out); rintro e w' ⟨rfl,⟨nd,rfl⟩⟩; refine ⟨_,rfl,?_⟩) | ((with_reducible refine X8 (b := .append) (xs := #[.tmp 54,.tmp 63]) rfl ?_); at_builtin; refine Kd.XY (Kd.int .i64) (w0 := w) w.heap.size rfl (.tmp 54) (.tmp 63) 46 3 (.int .i64 0) 8 rfl Try.underlying46 info3 rfl (by decide) (by omega) u12 x12_3 t396 [.int .i64 t396] (fun _ => True) (fun _ => False) rfl rfl ?aP (fun _ hk => hk.elim) ?aF ?aO ?aB ?aS ?aL ?_; (case aP => exact rfl); (case aB => exact (by repeat (first | (with_reducible first | exact HB.out | apply Zd | apply Za | apply Zb) | exact HB.out))); (case aF => exact (fun _ _ => trivial)); (case aO => exact (by (with_reducible repeat (first | apply Kd.Zl | apply Kd.Zk | apply Kd.Zs)); exact HO_12.out)); (case aS => exact (ZH (by repeat (first | (with_reducible first | exact HB.out | apply Zd | apply Za | apply Zb) | exact HB.out)))); (case aL => have := LMc25.out; omega); intro v398 w26 ho hb hg hat; rw [← Ny397.out] at ho; have n0_ := Zc.mk (hb); have n1_ := Zc.mk (ho); clear HB; clear HO_12; have HB := n0_; have HO399 := n1_; clear n0_ n1_; clear ho hb hg hat))
               go_roundg k3
               case measure => have := HJ5.out; have := HJ13.out; have := HK3.out; omega
               case rel => exact ⟨(y397),(wrap64 (x13_3 + 1)),(by first | rfl | (simp; done) | (simp [*]; done)),H',⟨by have := HJ5.out; have := HJ13.out; have := HK3.out; omega⟩,⟨by (with_reducible repeat (first | apply Kd.Zl | apply Kd.Zk | apply Kd.Zs)); exact HO399.out⟩,⟨by repeat (first | (with_reducible first | exact HB.out | apply Zd | apply Za | apply Zb) | exact HB.out)⟩⟩
             · rw [if_neg c25] at H
               exact absurd H (by simp)
           · rw [if_neg c22] at H
             have c22b0 : decide (x13_3 < a4) = false := decide_eq_false c22; clear c22; simp only [Option.some.injEq,Prod.mk.injEq] at H; obtain ⟨rfl,rfl⟩ := H
             go_wp2
             go_ret2
             exact ⟨_,by first | rfl | (simp [Zv,Zu] <;> rfl) | (simp [*,Zv,Zu] <;> rfl),by (with_reducible repeat (first | apply Kd.Zl | apply Kd.Zk | apply Kd.Zs)); exact HO_12.out,by repeat (first | (with_reducible first | exact HB.out | apply Zd | apply Za | apply Zb) | exact HB.out)⟩
end Go.Proofs.Ytomlfbmfdoallaa.PA
