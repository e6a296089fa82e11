/- The ticks of a stretch of frames, and a curve's values there: the program's and the reference's answers are alike; pieces one behind the other are the whole; for all maps, curves and numbers. -/
import Derived.Test.YtomlfbmfdoallaaCTempoBlocks7
import Derived.Deep.Slices
import Derived.Deep.Fields
import Derived.ChangeSame
import Derived.Lib.SmallJoins
import Derived.Test.YtomlfbmfdoallaaRows
import Derived.WalkKit
import Derived.ProofKit
import Derived.OpenShut
import Derived.ShutString
import Derived.ChangeOld
import Derived.Below
import Derived.SizedLaws
namespace Go.Proofs.Ytomlfbmfdoallaa.PA
open Go.RowKit Go.Proofs.YtomlfbmfdoallaaW.PrintWords Go.Proofs.YtomlfbmfdoallaaW.PrintLast Go.Proofs.YtomlfbmfdoallaaW.PrintMore
attribute [local go_sem] Xf Xg Xo Xn Xa ZZ Xh Xi
set_option linter.unusedVariables false
set_option linter.unusedSimpArgs false
def ZS.f (k : Nat) (l0 : List (S27)) (a1 : Int) : Option (Int × Int) := (Zh.f k l0).bind fun t299 => (if t299 = true then ((Z8.f a1).bind fun t300 => (if t300 = true then ((ZC.f k l0 a1).bind fun t301 => (if 0 ≤ t301 then (if t301 < (l0.length : Int) then (if ((Zf l0 t301).f2) = 0 then (some ((Zf l0 t301).f1,0)) else (if 0 ≤ (wrap64 (t301 + 1)) then (if (wrap64 (t301 + 1)) < (l0.length : Int) then ((ZF.f (wrap64 ((wrap64 (((Zf l0 t301).f1) * (wrap64 ((wrap64 (((Zf l0 (wrap64 (t301 + 1))).f0) - ((Zf l0 t301).f0))) - (wrap64 (a1 - ((Zf l0 t301).f0))))))) + (wrap64 (((Zf l0 (wrap64 (t301 + 1))).f1) * (wrap64 (a1 - ((Zf l0 t301).f0))))))) (wrap64 (((Zf l0 (wrap64 (t301 + 1))).f0) - ((Zf l0 t301).f0)))).bind fun t309 => (some (t309,0))) else (none)) else (none))) else (none)) else (none))) else (some (0,7)))) else (some (0,1)))
theorem ZS.mono : ∀ a0 a1 k,LeO (ZS.f k a0 a1) (ZS.f (k + 1) a0 a1) := by
 intro a0 a1 k; unfold ZS.f
 repeat' first
  | (with_reducible exact Zh.mono _ _)
  | (with_reducible exact ZC.mono _ _ _)
  | (with_reducible exact LeO.refl _)
  | (with_reducible exact LeO.none _)
  | (with_reducible refine LeO.ite ?_ ?_)
  | (with_reducible refine LeO.bind ?_ (fun _ => ?_))
  | exact Zh.mono _ _
  | exact ZC.mono _ _ _
  | exact LeO.none _
  | refine LeO.ite ?_ ?_
  | refine LeO.bind ?_ (fun _ => ?_)
set_option maxHeartbeats 8000000 in
set_option maxRecDepth 100000 in
theorem ZS.calls (k : Nat) (A0 : Option Addr) (c0 : Nat) (l0 : List (S27)) (a1 : Int) (r1 : Int) (r2 : Int) (w : World) (hr0 : Kd.C k27 w A0 l0.length l0) (hc0 : l0.length ≤ c0) (h : ZS.f k l0 a1 = some (r1,r2)) :
 Calls Try.prog 28 #[.slice A0 l0.length c0,.int .i64 a1] w fun e w' => e = .returned (.tuple #[.int .i64 r1,.int .i64 r2]) ∧ Below w.heap.size w w' := by
 have HR0 := Zc.mk hr0; have HC0 := Zc.mk hc0; clear hr0 hc0; have HB := Zc.mk (Below.refl w.heap.size w); have H : ((Zh.f k l0).bind fun t299 => (if t299 = true then ((Z8.f a1).bind fun t300 => (if t300 = true then ((ZC.f k l0 a1).bind fun t301 => (if 0 ≤ t301 then (if t301 < (l0.length : Int) then (if ((Zf l0 t301).f2) = 0 then (some ((Zf l0 t301).f1,0)) else (if 0 ≤ (wrap64 (t301 + 1)) then (if (wrap64 (t301 + 1)) < (l0.length : Int) then ((ZF.f (wrap64 ((wrap64 (((Zf l0 t301).f1) * (wrap64 ((wrap64 (((Zf l0 (wrap64 (t301 + 1))).f0) - ((Zf l0 t301).f0))) - (wrap64 (a1 - ((Zf l0 t301).f0))))))) + (wrap64 (((Zf l0 (wrap64 (t301 + 1))).f1) * (wrap64 (a1 - ((Zf l0 t301).f0))))))) (wrap64 (((Zf l0 (wrap64 (t301 + 1))).f0) - ((Zf l0 t301).f0)))).bind fun t309 => (some (t309,0))) else (none)) else (none))) else (none)) else (none))) else (some (0,7)))) else (some (0,1)))) = some (r1,r2) := h; clear h; replace H := Option.bind_eq_some_iff.mp H; obtain ⟨t299,A30,H⟩ := H; replace H : (if t299 = true then ((Z8.f a1).bind fun t300 => (if t300 = true then ((ZC.f k l0 a1).bind fun t301 => (if 0 ≤ t301 then (if t301 < (l0.length : Int) then (if ((Zf l0 t301).f2) = 0 then (some ((Zf l0 t301).f1,0)) else (if 0 ≤ (wrap64 (t301 + 1)) then (if (wrap64 (t301 + 1)) < (l0.length : Int) then ((ZF.f (wrap64 ((wrap64 (((Zf l0 t301).f1) * (wrap64 ((wrap64 (((Zf l0 (wrap64 (t301 + 1))).f0) - ((Zf l0 t301).f0))) - (wrap64 (a1 - ((Zf l0 t301).f0))))))) + (wrap64 (((Zf l0 (wrap64 (t301 + 1))).f1) * (wrap64 (a1 - ((Zf l0 t301).f0))))))) (wrap64 (((Zf l0 (wrap64 (t301 + 1))).f0) - ((Zf l0 t301).f0)))).bind fun t309 => (some (t309,0))) else (none)) else (none))) else (none)) else (none))) else (some (0,7)))) else (some (0,1))) = some (r1,r2) := H; have A3 := Zc.mk A30; clear A30
 by_cases c4 : t299 = true
 · subst c4
   have H1 : ((Z8.f a1).bind fun t300 => (if t300 = true then ((ZC.f k l0 a1).bind fun t301 => (if 0 ≤ t301 then (if t301 < (l0.length : Int) then (if ((Zf l0 t301).f2) = 0 then (some ((Zf l0 t301).f1,0)) else (if 0 ≤ (wrap64 (t301 + 1)) then (if (wrap64 (t301 + 1)) < (l0.length : Int) then ((ZF.f (wrap64 ((wrap64 (((Zf l0 t301).f1) * (wrap64 ((wrap64 (((Zf l0 (wrap64 (t301 + 1))).f0) - ((Zf l0 t301).f0))) - (wrap64 (a1 - ((Zf l0 t301).f0))))))) + (wrap64 (((Zf l0 (wrap64 (t301 + 1))).f1) * (wrap64 (a1 - ((Zf l0 t301).f0))))))) (wrap64 (((Zf l0 (wrap64 (t301 + 1))).f0) - ((Zf l0 t301).f0)))).bind fun t309 => (some (t309,0))) else (none)) else (none))) else (none)) else (none))) else (some (0,7)))) = some (r1,r2) := by rw [if_pos rfl] at H; exact H
   clear H; have H := H1; clear H1; replace H := Option.bind_eq_some_iff.mp H; obtain ⟨t300,A50,H⟩ := H; replace H : (if t300 = true then ((ZC.f k l0 a1).bind fun t301 => (if 0 ≤ t301 then (if t301 < (l0.length : Int) then (if ((Zf l0 t301).f2) = 0 then (some ((Zf l0 t301).f1,0)) else (if 0 ≤ (wrap64 (t301 + 1)) then (if (wrap64 (t301 + 1)) < (l0.length : Int) then ((ZF.f (wrap64 ((wrap64 (((Zf l0 t301).f1) * (wrap64 ((wrap64 (((Zf l0 (wrap64 (t301 + 1))).f0) - ((Zf l0 t301).f0))) - (wrap64 (a1 - ((Zf l0 t301).f0))))))) + (wrap64 (((Zf l0 (wrap64 (t301 + 1))).f1) * (wrap64 (a1 - ((Zf l0 t301).f0))))))) (wrap64 (((Zf l0 (wrap64 (t301 + 1))).f0) - ((Zf l0 t301).f0)))).bind fun t309 => (some (t309,0))) else (none)) else (none))) else (none)) else (none))) else (some (0,7))) = some (r1,r2) := H; have A5 := Zc.mk A50; clear A50
   by_cases c6 : t300 = true
   · subst c6
     have H1 : ((ZC.f k l0 a1).bind fun t301 => (if 0 ≤ t301 then (if t301 < (l0.length : Int) then (if ((Zf l0 t301).f2) = 0 then (some ((Zf l0 t301).f1,0)) else (if 0 ≤ (wrap64 (t301 + 1)) then (if (wrap64 (t301 + 1)) < (l0.length : Int) then ((ZF.f (wrap64 ((wrap64 (((Zf l0 t301).f1) * (wrap64 ((wrap64 (((Zf l0 (wrap64 (t301 + 1))).f0) - ((Zf l0 t301).f0))) - (wrap64 (a1 - ((Zf l0 t301).f0))))))) + (wrap64 (((Zf l0 (wrap64 (t301 + 1))).f1) * (wrap64 (a1 - ((Zf l0 t301).f0))))))) (wrap64 (((Zf l0 (wrap64 (t301 + 1))).f0) - ((Zf l0 t301).f0)))).bind fun t309 => (some (t309,0))) else (none)) else (none))) else (none)) else (none))) = some (r1,r2) := by rw [if_pos rfl] at H; exact H
     clear H; have H := H1; clear H1; replace H := Option.bind_eq_some_iff.mp H; obtain ⟨t301,A70,H⟩ := H; replace H : (if 0 ≤ t301 then (if t301 < (l0.length : Int) then (if ((Zf l0 t301).f2) = 0 then (some ((Zf l0 t301).f1,0)) else (if 0 ≤ (wrap64 (t301 + 1)) then (if (wrap64 (t301 + 1)) < (l0.length : Int) then ((ZF.f (wrap64 ((wrap64 (((Zf l0 t301).f1) * (wrap64 ((wrap64 (((Zf l0 (wrap64 (t301 + 1))).f0) - ((Zf l0 t301).f0))) - (wrap64 (a1 - ((Zf l0 t301).f0))))))) + (wrap64 (((Zf l0 (wrap64 (t301 + 1))).f1) * (wrap64 (a1 - ((Zf l0 t301).f0))))))) (wrap64 (((Zf l0 (wrap64 (t301 + 1))).f0) - ((Zf l0 t301).f0)))).bind fun t309 => (some (t309,0))) else (none)) else (none))) else (none)) else (none)) = some (r1,r2) := H; have A7 := Zc.mk A70; clear A70
     by_cases c8 : 0 ≤ t301
     · rw [if_pos c8] at H
       have c8b0 : decide (0 ≤ t301) = true := decide_eq_true c8; clear c8
       by_cases c9 : t301 < (l0.length : Int)
       · rw [if_pos c9] at H
         have c9b0 : decide (t301 < (l0.length : Int)) = true := decide_eq_true c9; clear c9
         by_cases c10 : ((Zf l0 t301).f2) = 0
         · rw [if_pos c10] at H
           have c10b0 : (((Zf l0 t301).f2) == 0) = true := beq_iff_eq.mpr c10; have c10b1 : (((Zf l0 t301).f2) != 0) = false := bne_eq_false_iff_eq.mpr c10; clear c10; simp only [Option.some.injEq,Prod.mk.injEq] at H; obtain ⟨rfl,rfl⟩ := H
           go_enter Try.func28,Try.ntmps28
           go_wp2_with (first | (go_at_call 11; (with_reducible refine (Zh.calls k _ _ l0 true _ ?side1 ?side2 A3.out).mono ?_); (case side1 => repeat (first | exact HR0.out | (with_reducible refine Kd.ZA ?_ _) | (with_reducible refine Kd.Z9 ?_ _) | (with_reducible refine Kd.ZI ?_))); (case side2 => exact HC0.out); rintro e w11 ⟨rfl,hb⟩; have n0_ := Zc.mk (Z3 (by repeat (first | (with_reducible first | exact HB.out | apply Zd | apply Za | apply Zb) | exact HB.out)) hb); clear HB; have HB := n0_; clear n0_; (try clear hb); (try clear hb2); (try clear hk); (try clear hi)) | (go_at_call 50; (with_reducible refine (Z8.calls a1 true _ A5.out).mono ?_); rintro e w' ⟨rfl,⟨nd,rfl⟩⟩; (try first | exact ⟨rfl,_,World.drewN_drewN _ _ _⟩ | exact ⟨rfl,_,Eq.trans (World.drewN_drewN _ _ _) (congrArg (World.drewN _) (Nat.add_assoc _ _ _))⟩)) | (go_at_call 56; (with_reducible refine (ZC.calls k _ _ l0 a1 t301 _ ?side1 ?side2 A7.out).mono ?_); (case side1 => repeat (first | exact (Kd.ZO HR0.out (by repeat (first | (with_reducible first | exact HB.out | apply Zd | apply Za | apply Zb) | exact HB.out))) | (with_reducible refine Kd.ZA ?_ _) | (with_reducible refine Kd.Z9 ?_ _) | (with_reducible refine Kd.ZI ?_))); (case side2 => exact HC0.out); rintro e w' ⟨rfl,⟨nd,rfl⟩⟩; (try first | exact ⟨rfl,_,World.drewN_drewN _ _ _⟩ | exact ⟨rfl,_,Eq.trans (World.drewN_drewN _ _ _) (congrArg (World.drewN _) (Nat.add_assoc _ _ _))⟩); have p302 : 0 ≤ (t301 : Int) := of_decide_eq_true (by first | (with_reducible assumption) | assumption); have q302 : t301 < (l0.length : Int) := of_decide_eq_true (by first | (with_reducible assumption) | assumption); obtain ⟨ad302,e302,hx302_0,hx302_1,hx302_2⟩ := Xm HR0.out t301 p302 q302; cases e302; replace hx302_0 := (HB.out.cell (World.block_lt_of_cell? w _ hx302_0)).trans hx302_0; replace hx302_1 := (HB.out.cell (World.block_lt_of_cell? w _ hx302_1)).trans hx302_1; replace hx302_2 := (HB.out.cell (World.block_lt_of_cell? w _ hx302_2)).trans hx302_2; replace p302 := eq_true p302; replace q302 := eq_true q302; have p303 : 0 ≤ (t301 : Int) := of_decide_eq_true (by first | (with_reducible assumption) | assumption); have q303 : t301 < (l0.length : Int) := of_decide_eq_true (by first | (with_reducible assumption) | assumption); obtain ⟨ad303,e303,hx303_0,hx303_1,hx303_2⟩ := Xm HR0.out t301 p303 q303; obtain rfl : ad302 = ad303 := (by injection e303); replace hx303_0 := (HB.out.cell (World.block_lt_of_cell? w _ hx303_0)).trans hx303_0; replace hx303_1 := (HB.out.cell (World.block_lt_of_cell? w _ hx303_1)).trans hx303_1; replace hx303_2 := (HB.out.cell (World.block_lt_of_cell? w _ hx303_2)).trans hx303_2; replace p303 := eq_true p303; replace q303 := eq_true q303))
           repeat (go_quiet (first | (go_at_call 11; (with_reducible refine (Zh.calls k _ _ l0 true _ ?side1 ?side2 A3.out).mono ?_); (case side1 => repeat (first | exact HR0.out | (with_reducible refine Kd.ZA ?_ _) | (with_reducible refine Kd.Z9 ?_ _) | (with_reducible refine Kd.ZI ?_))); (case side2 => exact HC0.out); rintro e w11 ⟨rfl,hb⟩; have n0_ := Zc.mk (Z3 (by repeat (first | (with_reducible first | exact HB.out | apply Zd | apply Za | apply Zb) | exact HB.out)) hb); clear HB; have HB := n0_; clear n0_; (try clear hb); (try clear hb2); (try clear hk); (try clear hi)) | (go_at_call 50; (with_reducible refine (Z8.calls a1 true _ A5.out).mono ?_); rintro e w' ⟨rfl,⟨nd,rfl⟩⟩; (try first | exact ⟨rfl,_,World.drewN_drewN _ _ _⟩ | exact ⟨rfl,_,Eq.trans (World.drewN_drewN _ _ _) (congrArg (World.drewN _) (Nat.add_assoc _ _ _))⟩)) | (go_at_call 56; (with_reducible refine (ZC.calls k _ _ l0 a1 t301 _ ?side1 ?side2 A7.out).mono ?_); (case side1 => repeat (first | exact (Kd.ZO HR0.out (by repeat (first | (with_reducible first | exact HB.out | apply Zd | apply Za | apply Zb) | exact HB.out))) | (with_reducible refine Kd.ZA ?_ _) | (with_reducible refine Kd.Z9 ?_ _) | (with_reducible refine Kd.ZI ?_))); (case side2 => exact HC0.out); rintro e w' ⟨rfl,⟨nd,rfl⟩⟩; (try first | exact ⟨rfl,_,World.drewN_drewN _ _ _⟩ | exact ⟨rfl,_,Eq.trans (World.drewN_drewN _ _ _) (congrArg (World.drewN _) (Nat.add_assoc _ _ _))⟩); have p302 : 0 ≤ (t301 : Int) := of_decide_eq_true (by first | (with_reducible assumption) | assumption); have q302 : t301 < (l0.length : Int) := of_decide_eq_true (by first | (with_reducible assumption) | assumption); obtain ⟨ad302,e302,hx302_0,hx302_1,hx302_2⟩ := Xm HR0.out t301 p302 q302; cases e302; replace hx302_0 := (HB.out.cell (World.block_lt_of_cell? w _ hx302_0)).trans hx302_0; replace hx302_1 := (HB.out.cell (World.block_lt_of_cell? w _ hx302_1)).trans hx302_1; replace hx302_2 := (HB.out.cell (World.block_lt_of_cell? w _ hx302_2)).trans hx302_2; replace p302 := eq_true p302; replace q302 := eq_true q302; have p303 : 0 ≤ (t301 : Int) := of_decide_eq_true (by first | (with_reducible assumption) | assumption); have q303 : t301 < (l0.length : Int) := of_decide_eq_true (by first | (with_reducible assumption) | assumption); obtain ⟨ad303,e303,hx303_0,hx303_1,hx303_2⟩ := Xm HR0.out t301 p303 q303; obtain rfl : ad302 = ad303 := (by injection e303); replace hx303_0 := (HB.out.cell (World.block_lt_of_cell? w _ hx303_0)).trans hx303_0; replace hx303_1 := (HB.out.cell (World.block_lt_of_cell? w _ hx303_1)).trans hx303_1; replace hx303_2 := (HB.out.cell (World.block_lt_of_cell? w _ hx303_2)).trans hx303_2; replace p303 := eq_true p303; replace q303 := eq_true q303)); try go_wp2_with (first | (go_at_call 11; (with_reducible refine (Zh.calls k _ _ l0 true _ ?side1 ?side2 A3.out).mono ?_); (case side1 => repeat (first | exact HR0.out | (with_reducible refine Kd.ZA ?_ _) | (with_reducible refine Kd.Z9 ?_ _) | (with_reducible refine Kd.ZI ?_))); (case side2 => exact HC0.out); rintro e w11 ⟨rfl,hb⟩; have n0_ := Zc.mk (Z3 (by repeat (first | (with_reducible first | exact HB.out | apply Zd | apply Za | apply Zb) | exact HB.out)) hb); clear HB; have HB := n0_; clear n0_; (try clear hb); (try clear hb2); (try clear hk); (try clear hi)) | (go_at_call 50; (with_reducible refine (Z8.calls a1 true _ A5.out).mono ?_); rintro e w' ⟨rfl,⟨nd,rfl⟩⟩; (try first | exact ⟨rfl,_,World.drewN_drewN _ _ _⟩ | exact ⟨rfl,_,Eq.trans (World.drewN_drewN _ _ _) (congrArg (World.drewN _) (Nat.add_assoc _ _ _))⟩)) | (go_at_call 56; (with_reducible refine (ZC.calls k _ _ l0 a1 t301 _ ?side1 ?side2 A7.out).mono ?_); (case side1 => repeat (first | exact (Kd.ZO HR0.out (by repeat (first | (with_reducible first | exact HB.out | apply Zd | apply Za | apply Zb) | exact HB.out))) | (with_reducible refine Kd.ZA ?_ _) | (with_reducible refine Kd.Z9 ?_ _) | (with_reducible refine Kd.ZI ?_))); (case side2 => exact HC0.out); rintro e w' ⟨rfl,⟨nd,rfl⟩⟩; (try first | exact ⟨rfl,_,World.drewN_drewN _ _ _⟩ | exact ⟨rfl,_,Eq.trans (World.drewN_drewN _ _ _) (congrArg (World.drewN _) (Nat.add_assoc _ _ _))⟩); have p302 : 0 ≤ (t301 : Int) := of_decide_eq_true (by first | (with_reducible assumption) | assumption); have q302 : t301 < (l0.length : Int) := of_decide_eq_true (by first | (with_reducible assumption) | assumption); obtain ⟨ad302,e302,hx302_0,hx302_1,hx302_2⟩ := Xm HR0.out t301 p302 q302; cases e302; replace hx302_0 := (HB.out.cell (World.block_lt_of_cell? w _ hx302_0)).trans hx302_0; replace hx302_1 := (HB.out.cell (World.block_lt_of_cell? w _ hx302_1)).trans hx302_1; replace hx302_2 := (HB.out.cell (World.block_lt_of_cell? w _ hx302_2)).trans hx302_2; replace p302 := eq_true p302; replace q302 := eq_true q302; have p303 : 0 ≤ (t301 : Int) := of_decide_eq_true (by first | (with_reducible assumption) | assumption); have q303 : t301 < (l0.length : Int) := of_decide_eq_true (by first | (with_reducible assumption) | assumption); obtain ⟨ad303,e303,hx303_0,hx303_1,hx303_2⟩ := Xm HR0.out t301 p303 q303; obtain rfl : ad302 = ad303 := (by injection e303); replace hx303_0 := (HB.out.cell (World.block_lt_of_cell? w _ hx303_0)).trans hx303_0; replace hx303_1 := (HB.out.cell (World.block_lt_of_cell? w _ hx303_1)).trans hx303_1; replace hx303_2 := (HB.out.cell (World.block_lt_of_cell? w _ hx303_2)).trans hx303_2; replace p303 := eq_true p303; replace q303 := eq_true q303)))
           go_ret2
           exact ⟨by first | rfl | (simp [Zv,Zu] <;> rfl) | (simp [*,Zv,Zu] <;> rfl),by repeat (first | (with_reducible first | exact HB.out | apply Zd | apply Za | apply Zb) | exact HB.out)⟩
         · rw [if_neg c10] at H
           have c10b0 : (((Zf l0 t301).f2) == 0) = false := beq_eq_false_iff_ne.mpr c10; have c10b1 : (((Zf l0 t301).f2) != 0) = true := bne_iff_ne.mpr c10
           obtain ⟨ji12,hji12⟩ : ∃ j_ : Int,(wrap64 (t301 + 1)) = j_ := ⟨_,rfl⟩
           replace H : (if 0 ≤ (ji12) then (if (ji12) < (l0.length : Int) then ((ZF.f (wrap64 ((wrap64 (((Zf l0 t301).f1) * (wrap64 ((wrap64 (((Zf l0 (ji12)).f0) - ((Zf l0 t301).f0))) - (wrap64 (a1 - ((Zf l0 t301).f0))))))) + (wrap64 (((Zf l0 (ji12)).f1) * (wrap64 (a1 - ((Zf l0 t301).f0))))))) (wrap64 (((Zf l0 (ji12)).f0) - ((Zf l0 t301).f0)))).bind fun t309 => (some (t309,0))) else (none)) else (none)) = some (r1,r2) := by first | (rw [hji12] at H; exact H) | (simp only [hji12] at H ⊢; exact H)
           (try rw [hji12] at A3)
           (try rw [hji12] at A5)
           (try rw [hji12] at A7)
           have hji12w : (IntKind.i64.wrap (t301 + 1)) = ji12 := (i64_w _).trans hji12
           by_cases c13 : 0 ≤ (ji12)
           · rw [if_pos c13] at H
             have c13b0 : decide (0 ≤ (ji12)) = true := decide_eq_true c13; clear c13
             by_cases c14 : (ji12) < (l0.length : Int)
             · rw [if_pos c14] at H
               have c14b0 : decide ((ji12) < (l0.length : Int)) = true := decide_eq_true c14; clear c14; replace H := Option.bind_eq_some_iff.mp H; obtain ⟨t309,A150,H⟩ := H; replace H : (some (t309,0)) = some (r1,r2) := H; have A15 := Zc.mk A150; clear A150; simp only [Option.some.injEq,Prod.mk.injEq] at H; obtain ⟨rfl,rfl⟩ := H
               go_enter Try.func28,Try.ntmps28
               go_wp2_with (first | (go_at_call 11; (with_reducible refine (Zh.calls k _ _ l0 true _ ?side1 ?side2 A3.out).mono ?_); (case side1 => repeat (first | exact HR0.out | (with_reducible refine Kd.ZA ?_ _) | (with_reducible refine Kd.Z9 ?_ _) | (with_reducible refine Kd.ZI ?_))); (case side2 => exact HC0.out); rintro e w16 ⟨rfl,hb⟩; have n0_ := Zc.mk (Z3 (by repeat (first | (with_reducible first | exact HB.out | apply Zd | apply Za | apply Zb) | exact HB.out)) hb); clear HB; have HB := n0_; clear n0_; (try clear hb); (try clear hb2); (try clear hk); (try clear hi)) | (go_at_call 50; (with_reducible refine (Z8.calls a1 true _ A5.out).mono ?_); rintro e w' ⟨rfl,⟨nd,rfl⟩⟩; (try first | exact ⟨rfl,_,World.drewN_drewN _ _ _⟩ | exact ⟨rfl,_,Eq.trans (World.drewN_drewN _ _ _) (congrArg (World.drewN _) (Nat.add_assoc _ _ _))⟩)) | (go_at_call 56; (with_reducible refine (ZC.calls k _ _ l0 a1 t301 _ ?side1 ?side2 A7.out).mono ?_); (case side1 => repeat (first | exact (Kd.ZO HR0.out (by repeat (first | (with_reducible first | exact HB.out | apply Zd | apply Za | apply Zb) | exact HB.out))) | (with_reducible refine Kd.ZA ?_ _) | (with_reducible refine Kd.Z9 ?_ _) | (with_reducible refine Kd.ZI ?_))); (case side2 => exact HC0.out); rintro e w' ⟨rfl,⟨nd,rfl⟩⟩; (try first | exact ⟨rfl,_,World.drewN_drewN _ _ _⟩ | exact ⟨rfl,_,Eq.trans (World.drewN_drewN _ _ _) (congrArg (World.drewN _) (Nat.add_assoc _ _ _))⟩); have p302 : 0 ≤ (t301 : Int) := of_decide_eq_true (by first | (with_reducible assumption) | assumption); have q302 : t301 < (l0.length : Int) := of_decide_eq_true (by first | (with_reducible assumption) | assumption); obtain ⟨ad302,e302,hx302_0,hx302_1,hx302_2⟩ := Xm HR0.out t301 p302 q302; cases e302; replace hx302_0 := (HB.out.cell (World.block_lt_of_cell? w _ hx302_0)).trans hx302_0; replace hx302_1 := (HB.out.cell (World.block_lt_of_cell? w _ hx302_1)).trans hx302_1; replace hx302_2 := (HB.out.cell (World.block_lt_of_cell? w _ hx302_2)).trans hx302_2; replace p302 := eq_true p302; replace q302 := eq_true q302; have p304 : 0 ≤ ((ji12) : Int) := of_decide_eq_true (by first | (with_reducible assumption) | assumption); have q304 : (ji12) < (l0.length : Int) := of_decide_eq_true (by first | (with_reducible assumption) | assumption); obtain ⟨ad304,e304,hx304_0,hx304_1,hx304_2⟩ := Xm HR0.out (ji12) p304 q304; obtain rfl : ad302 = ad304 := (by injection e304); replace hx304_0 := (HB.out.cell (World.block_lt_of_cell? w _ hx304_0)).trans hx304_0; replace hx304_1 := (HB.out.cell (World.block_lt_of_cell? w _ hx304_1)).trans hx304_1; replace hx304_2 := (HB.out.cell (World.block_lt_of_cell? w _ hx304_2)).trans hx304_2; replace p304 := eq_true p304; replace q304 := eq_true q304; have p305 : 0 ≤ (t301 : Int) := of_decide_eq_true (by first | (with_reducible assumption) | assumption); have q305 : t301 < (l0.length : Int) := of_decide_eq_true (by first | (with_reducible assumption) | assumption); obtain ⟨ad305,e305,hx305_0,hx305_1,hx305_2⟩ := Xm HR0.out t301 p305 q305; obtain rfl : ad302 = ad305 := (by injection e305); replace hx305_0 := (HB.out.cell (World.block_lt_of_cell? w _ hx305_0)).trans hx305_0; replace hx305_1 := (HB.out.cell (World.block_lt_of_cell? w _ hx305_1)).trans hx305_1; replace hx305_2 := (HB.out.cell (World.block_lt_of_cell? w _ hx305_2)).trans hx305_2; replace p305 := eq_true p305; replace q305 := eq_true q305; have p306 : 0 ≤ (t301 : Int) := of_decide_eq_true (by first | (with_reducible assumption) | assumption); have q306 : t301 < (l0.length : Int) := of_decide_eq_true (by first | (with_reducible assumption) | assumption); obtain ⟨ad306,e306,hx306_0,hx306_1,hx306_2⟩ := Xm HR0.out t301 p306 q306; obtain rfl : ad302 = ad306 := (by injection e306); replace hx306_0 := (HB.out.cell (World.block_lt_of_cell? w _ hx306_0)).trans hx306_0; replace hx306_1 := (HB.out.cell (World.block_lt_of_cell? w _ hx306_1)).trans hx306_1; replace hx306_2 := (HB.out.cell (World.block_lt_of_cell? w _ hx306_2)).trans hx306_2; replace p306 := eq_true p306; replace q306 := eq_true q306; have p307 : 0 ≤ (t301 : Int) := of_decide_eq_true (by first | (with_reducible assumption) | assumption); have q307 : t301 < (l0.length : Int) := of_decide_eq_true (by first | (with_reducible assumption) | assumption); obtain ⟨ad307,e307,hx307_0,hx307_1,hx307_2⟩ := Xm HR0.out t301 p307 q307; obtain rfl : ad302 = ad307 := (by injection e307); replace hx307_0 := (HB.out.cell (World.block_lt_of_cell? w _ hx307_0)).trans hx307_0; replace hx307_1 := (HB.out.cell (World.block_lt_of_cell? w _ hx307_1)).trans hx307_1; replace hx307_2 := (HB.out.cell (World.block_lt_of_cell? w _ hx307_2)).trans hx307_2; replace p307 := eq_true p307; replace q307 := eq_true q307; have p308 : 0 ≤ ((ji12) : Int) := of_decide_eq_true (by first | (with_reducible assumption) | assumption); have q308 : (ji12) < (l0.length : Int) := of_decide_eq_true (by first | (with_reducible assumption) | assumption); obtain ⟨ad308,e308,hx308_0,hx308_1,hx308_2⟩ := Xm HR0.out (ji12) p308 q308; obtain rfl : ad302 = ad308 := (by injection e308); replace hx308_0 := (HB.out.cell (World.block_lt_of_cell? w _ hx308_0)).trans hx308_0; replace hx308_1 := (HB.out.cell (World.block_lt_of_cell? w _ hx308_1)).trans hx308_1; replace hx308_2 := (HB.out.cell (World.block_lt_of_cell? w _ hx308_2)).trans hx308_2; replace p308 := eq_true p308; replace q308 := eq_true q308) | (go_at_call 45; (with_reducible refine (ZF.calls (wrap64 ((wrap64 (((Zf l0 t301).f1) * (wrap64 ((wrap64 (((Zf l0 (ji12)).f0) - ((Zf l0 t301).f0))) - (wrap64 (a1 - ((Zf l0 t301).f0))))))) + (wrap64 (((Zf l0 (ji12)).f1) * (wrap64 (a1 - ((Zf l0 t301).f0))))))) (wrap64 (((Zf l0 (ji12)).f0) - ((Zf l0 t301).f0))) t309 _ A15.out).mono ?_); rintro e w' ⟨rfl,⟨nd,rfl⟩⟩; (try first | exact ⟨rfl,_,World.drewN_drewN _ _ _⟩ | exact ⟨rfl,_,Eq.trans (World.drewN_drewN _ _ _) (congrArg (World.drewN _) (Nat.add_assoc _ _ _))⟩)))
               repeat (go_quiet (first | (go_at_call 11; (with_reducible refine (Zh.calls k _ _ l0 true _ ?side1 ?side2 A3.out).mono ?_); (case side1 => repeat (first | exact HR0.out | (with_reducible refine Kd.ZA ?_ _) | (with_reducible refine Kd.Z9 ?_ _) | (with_reducible refine Kd.ZI ?_))); (case side2 => exact HC0.out); rintro e w16 ⟨rfl,hb⟩; have n0_ := Zc.mk (Z3 (by repeat (first | (with_reducible first | exact HB.out | apply Zd | apply Za | apply Zb) | exact HB.out)) hb); clear HB; have HB := n0_; clear n0_; (try clear hb); (try clear hb2); (try clear hk); (try clear hi)) | (go_at_call 50; (with_reducible refine (Z8.calls a1 true _ A5.out).mono ?_); rintro e w' ⟨rfl,⟨nd,rfl⟩⟩; (try first | exact ⟨rfl,_,World.drewN_drewN _ _ _⟩ | exact ⟨rfl,_,Eq.trans (World.drewN_drewN _ _ _) (congrArg (World.drewN _) (Nat.add_assoc _ _ _))⟩)) | (go_at_call 56; (with_reducible refine (ZC.calls k _ _ l0 a1 t301 _ ?side1 ?side2 A7.out).mono ?_); (case side1 => repeat (first | exact (Kd.ZO HR0.out (by repeat (first | (with_reducible first | exact HB.out | apply Zd | apply Za | apply Zb) | exact HB.out))) | (with_reducible refine Kd.ZA ?_ _) | (with_reducible refine Kd.Z9 ?_ _) | (with_reducible refine Kd.ZI ?_))); (case side2 => exact HC0.out); rintro e w' ⟨rfl,⟨nd,rfl⟩⟩; (try first | exact ⟨rfl,_,World.drewN_drewN _ _ _⟩ | exact ⟨rfl,_,Eq.trans (World.drewN_drewN _ _ _) (congrArg (World.drewN _) (Nat.add_assoc _ _ _))⟩); have p302 : 0 ≤ (t301 : Int) := of_decide_eq_true (by first | (with_reducible assumption) | assumption); have q302 : t301 < (l0.length : Int) := of_decide_eq_true (by first | (with_reducible assumption) | assumption); obtain ⟨ad302,e302,hx302_0,hx302_1,hx302_2⟩ := Xm HR0.out t301 p302 q302; cases e302; replace hx302_0 := (HB.out.cell (World.block_lt_of_cell? w _ hx302_0)).trans hx302_0; replace hx302_1 := (HB.out.cell (World.block_lt_of_cell? w _ hx302_1)).trans hx302_1; replace hx302_2 := (HB.out.cell (World.block_lt_of_cell? w _ hx302_2)).trans hx302_2; replace p302 := eq_true p302; replace q302 := eq_true q302; have p304 : 0 ≤ ((ji12) : Int) := of_decide_eq_true (by first | (with_reducible assumption) | assumption); have q304 : (ji12) < (l0.length : Int) := of_decide_eq_true (by first | (with_reducible assumption) | assumption); obtain ⟨ad304,e304,hx304_0,hx304_1,hx304_2⟩ := Xm HR0.out (ji12) p304 q304; obtain rfl : ad302 = ad304 := (by injection e304); replace hx304_0 := (HB.out.cell (World.block_lt_of_cell? w _ hx304_0)).trans hx304_0; replace hx304_1 := (HB.out.cell (World.block_lt_of_cell? w _ hx304_1)).trans hx304_1; replace hx304_2 := (HB.out.cell (World.block_lt_of_cell? w _ hx304_2)).trans hx304_2; replace p304 := eq_true p304; replace q304 := eq_true q304; have p305 : 0 ≤ (t301 : Int) := of_decide_eq_true (by first | (with_reducible assumption) | assumption); have q305 : t301 < (l0.length : Int) := of_decide_eq_true (by first | (with_reducible assumption) | assumption); obtain ⟨ad305,e305,hx305_0,hx305_1,hx305_2⟩ := Xm HR0.out t301 p305 q305; obtain rfl : ad302 = ad305 := (by injection e305); replace hx305_0 := (HB.out.cell (World.block_lt_of_cell? w _ hx305_0)).trans hx305_0; replace hx305_1 := (HB.out.cell (World.block_lt_of_cell? w _ hx305_1)).trans hx305_1; replace hx305_2 := (HB.out.cell (World.block_lt_of_cell? w _ hx305_2)).trans hx305_2; replace p305 := eq_true p305; replace q305 := eq_true q305; have p306 : 0 ≤ (t301 : Int) := of_decide_eq_true (by first | (with_reducible assumption) | assumption); have q306 : t301 < (l0.length : Int) := of_decide_eq_true (by first | (with_reducible assumption) | assumption); obtain ⟨ad306,e306,hx306_0,hx306_1,hx306_2⟩ := Xm HR0.out t301 p306 q306; obtain rfl : ad302 = ad306 := (by injection e306); replace hx306_0 := (HB.out.cell (World.block_lt_of_cell? w _ hx306_0)).trans hx306_0; replace hx306_1 := (HB.out.cell (World.block_lt_of_cell? w _ hx306_1)).trans hx306_1; replace hx306_2 := (HB.out.cell (World.block_lt_of_cell? w _ hx306_2)).trans hx306_2; replace p306 := eq_true p306; replace q306 := eq_true q306; have p307 : 0 ≤ (t301 : Int) := of_decide_eq_true (by first | (with_reducible assumption) | assumption); have q307 : t301 < (l0.length : Int) := of_decide_eq_true (by first | (with_reducible assumption) | assumption); obtain ⟨ad307,e307,hx307_0,hx307_1,hx307_2⟩ := Xm HR0.out t301 p307 q307; obtain rfl : ad302 = ad307 := (by injection e307); replace hx307_0 := (HB.out.cell (World.block_lt_of_cell? w _ hx307_0)).trans hx307_0; replace hx307_1 := (HB.out.cell (World.block_lt_of_cell? w _ hx307_1)).trans hx307_1; replace hx307_2 := (HB.out.cell (World.block_lt_of_cell? w _ hx307_2)).trans hx307_2; replace p307 := eq_true p307; replace q307 := eq_true q307; have p308 : 0 ≤ ((ji12) : Int) := of_decide_eq_true (by first | (with_reducible assumption) | assumption); have q308 : (ji12) < (l0.length : Int) := of_decide_eq_true (by first | (with_reducible assumption) | assumption); obtain ⟨ad308,e308,hx308_0,hx308_1,hx308_2⟩ := Xm HR0.out (ji12) p308 q308; obtain rfl : ad302 = ad308 := (by injection e308); replace hx308_0 := (HB.out.cell (World.block_lt_of_cell? w _ hx308_0)).trans hx308_0; replace hx308_1 := (HB.out.cell (World.block_lt_of_cell? w _ hx308_1)).trans hx308_1; replace hx308_2 := (HB.out.cell (World.block_lt_of_cell? w _ hx308_2)).trans hx308_2; replace p308 := eq_true p308; replace q308 := eq_true q308) | (go_at_call 45; (with_reducible refine (ZF.calls (wrap64 ((wrap64 (((Zf l0 t301).f1) * (wrap64 ((wrap64 (((Zf l0 (ji12)).f0) - ((Zf l0 t301).f0))) - (wrap64 (a1 - ((Zf l0 t301).f0))))))) + (wrap64 (((Zf l0 (ji12)).f1) * (wrap64 (a1 - ((Zf l0 t301).f0))))))) (wrap64 (((Zf l0 (ji12)).f0) - ((Zf l0 t301).f0))) t309 _ A15.out).mono ?_); rintro e w' ⟨rfl,⟨nd,rfl⟩⟩; (try first | exact ⟨rfl,_,World.drewN_drewN _ _ _⟩ | exact ⟨rfl,_,Eq.trans (World.drewN_drewN _ _ _) (congrArg (World.drewN _) (Nat.add_assoc _ _ _))⟩))); try go_wp2_with (first | (go_at_call 11; (with_reducible refine (Zh.calls k _ _ l0 true _ ?side1 ?side2 A3.out).mono ?_); (case side1 => repeat (first | exact HR0.out | (with_reducible refine Kd.ZA ?_ _) | (with_reducible refine Kd.Z9 ?_ _) | (with_reducible refine Kd.ZI ?_))); (case side2 => exact HC0.out); rintro e w16 ⟨rfl,hb⟩; have n0_ := Zc.mk (Z3 (by repeat (first | (with_reducible first | exact HB.out | apply Zd | apply Za | apply Zb) | exact HB.out)) hb); clear HB; have HB := n0_; clear n0_; (try clear hb); (try clear hb2); (try clear hk); (try clear hi)) | (go_at_call 50; (with_reducible refine (Z8.calls a1 true _ A5.out).mono ?_); rintro e w' ⟨rfl,⟨nd,rfl⟩⟩; (try first | exact ⟨rfl,_,World.drewN_drewN _ _ _⟩ | exact ⟨rfl,_,Eq.trans (World.drewN_drewN _ _ _) (congrArg (World.drewN _) (Nat.add_assoc _ _ _))⟩)) | (go_at_call 56; (with_reducible refine (ZC.calls k _ _ l0 a1 t301 _ ?side1 ?side2 A7.out).mono ?_); (case side1 => repeat (first | exact (Kd.ZO HR0.out (by repeat (first | (with_reducible first | exact HB.out | apply Zd | apply Za | apply Zb) | exact HB.out))) | (with_reducible refine Kd.ZA ?_ _) | (with_reducible refine Kd.Z9 ?_ _) | (with_reducible refine Kd.ZI ?_))); (case side2 => exact HC0.out); rintro e w' ⟨rfl,⟨nd,rfl⟩⟩; (try first | exact ⟨rfl,_,World.drewN_drewN _ _ _⟩ | exact ⟨rfl,_,Eq.trans (World.drewN_drewN _ _ _) (congrArg (World.drewN _) (Nat.add_assoc _ _ _))⟩); have p302 : 0 ≤ (t301 : Int) := of_decide_eq_true (by first | (with_reducible assumption) | assumption); have q302 : t301 < (l0.length : Int) := of_decide_eq_true (by first | (with_reducible assumption) | assumption); obtain ⟨ad302,e302,hx302_0,hx302_1,hx302_2⟩ := Xm HR0.out t301 p302 q302; cases e302; replace hx302_0 := (HB.out.cell (World.block_lt_of_cell? w _ hx302_0)).trans hx302_0; replace hx302_1 := (HB.out.cell (World.block_lt_of_cell? w _ hx302_1)).trans hx302_1; replace hx302_2 := (HB.out.cell (World.block_lt_of_cell? w _ hx302_2)).trans hx302_2; replace p302 := eq_true p302; replace q302 := eq_true q302; have p304 : 0 ≤ ((ji12) : Int) := of_decide_eq_true (by first | (with_reducible assumption) | assumption); have q304 : (ji12) < (l0.length : Int) := of_decide_eq_true (by first | (with_reducible assumption) | assumption); obtain ⟨ad304,e304,hx304_0,hx304_1,hx304_2⟩ := Xm HR0.out (ji12) p304 q304; obtain rfl : ad302 = ad304 := (by injection e304); replace hx304_0 := (HB.out.cell (World.block_lt_of_cell? w _ hx304_0)).trans hx304_0; replace hx304_1 := (HB.out.cell (World.block_lt_of_cell? w _ hx304_1)).trans hx304_1; replace hx304_2 := (HB.out.cell (World.block_lt_of_cell? w _ hx304_2)).trans hx304_2; replace p304 := eq_true p304; replace q304 := eq_true q304; have p305 : 0 ≤ (t301 : Int) := of_decide_eq_true (by first | (with_reducible assumption) | assumption); have q305 : t301 < (l0.length : Int) := of_decide_eq_true (by first | (with_reducible assumption) | assumption); obtain ⟨ad305,e305,hx305_0,hx305_1,hx305_2⟩ := Xm HR0.out t301 p305 q305; obtain rfl : ad302 = ad305 := (by injection e305); replace hx305_0 := (HB.out.cell (World.block_lt_of_cell? w _ hx305_0)).trans hx305_0; replace hx305_1 := (HB.out.cell (World.block_lt_of_cell? w _ hx305_1)).trans hx305_1; replace hx305_2 := (HB.out.cell (World.block_lt_of_cell? w _ hx305_2)).trans hx305_2; replace p305 := eq_true p305; replace q305 := eq_true q305; have p306 : 0 ≤ (t301 : Int) := of_decide_eq_true (by first | (with_reducible assumption) | assumption); have q306 : t301 < (l0.length : Int) := of_decide_eq_true (by first | (with_reducible assumption) | assumption); obtain ⟨ad306,e306,hx306_0,hx306_1,hx306_2⟩ := Xm HR0.out t301 p306 q306; obtain rfl : ad302 = ad306 := (by injection e306); replace hx306_0 := (HB.out.cell (World.block_lt_of_cell? w _ hx306_0)).trans hx306_0; replace hx306_1 := (HB.out.cell (World.block_lt_of_cell? w _ hx306_1)).trans hx306_1; replace hx306_2 := (HB.out.cell (World.block_lt_of_cell? w _ hx306_2)).trans hx306_2; replace p306 := eq_true p306; replace q306 := eq_true q306; have p307 : 0 ≤ (t301 : Int) := of_decide_eq_true (by first | (with_reducible assumption) | assumption); have q307 : t301 < (l0.length : Int) := of_decide_eq_true (by first | (with_reducible assumption) | assumption); obtain ⟨ad307,e307,hx307_0,hx307_1,hx307_2⟩ := Xm HR0.out t301 p307 q307; obtain rfl : ad302 = ad307 := (by injection e307); replace hx307_0 := (HB.out.cell (World.block_lt_of_cell? w _ hx307_0)).trans hx307_0; replace hx307_1 := (HB.out.cell (World.block_lt_of_cell? w _ hx307_1)).trans hx307_1; replace hx307_2 := (HB.out.cell (World.block_lt_of_cell? w _ hx307_2)).trans hx307_2; replace p307 := eq_true p307; replace q307 := eq_true q307; have p308 : 0 ≤ ((ji12) : Int) := of_decide_eq_true (by first | (with_reducible assumption) | assumption); have q308 : (ji12) < (l0.length : Int) := of_decide_eq_true (by first | (with_reducible assumption) | assumption); obtain ⟨ad308,e308,hx308_0,hx308_1,hx308_2⟩ := Xm HR0.out (ji12) p308 q308; obtain rfl : ad302 = ad308 := (by injection e308); replace hx308_0 := (HB.out.cell (World.block_lt_of_cell? w _ hx308_0)).trans hx308_0; replace hx308_1 := (HB.out.cell (World.block_lt_of_cell? w _ hx308_1)).trans hx308_1; replace hx308_2 := (HB.out.cell (World.block_lt_of_cell? w _ hx308_2)).trans hx308_2; replace p308 := eq_true p308; replace q308 := eq_true q308) | (go_at_call 45; (with_reducible refine (ZF.calls (wrap64 ((wrap64 (((Zf l0 t301).f1) * (wrap64 ((wrap64 (((Zf l0 (ji12)).f0) - ((Zf l0 t301).f0))) - (wrap64 (a1 - ((Zf l0 t301).f0))))))) + (wrap64 (((Zf l0 (ji12)).f1) * (wrap64 (a1 - ((Zf l0 t301).f0))))))) (wrap64 (((Zf l0 (ji12)).f0) - ((Zf l0 t301).f0))) t309 _ A15.out).mono ?_); rintro e w' ⟨rfl,⟨nd,rfl⟩⟩; (try first | exact ⟨rfl,_,World.drewN_drewN _ _ _⟩ | exact ⟨rfl,_,Eq.trans (World.drewN_drewN _ _ _) (congrArg (World.drewN _) (Nat.add_assoc _ _ _))⟩))))
               go_ret2
               exact ⟨by first | rfl | (simp [Zv,Zu] <;> rfl) | (simp only [← hji12]; first | rfl | (simp [Zv,Zu] <;> rfl)) | (simp [*,Zv,Zu] <;> rfl),by repeat (first | (with_reducible first | exact HB.out | apply Zd | apply Za | apply Zb) | exact HB.out)⟩
             · rw [if_neg c14] at H
               exact absurd H (by simp)
           · rw [if_neg c13] at H
             exact absurd H (by simp)
       · rw [if_neg c9] at H
         exact absurd H (by simp)
     · rw [if_neg c8] at H
       exact absurd H (by simp)
   · replace c6 := Bool.eq_false_iff.mpr c6
     subst c6
     have H1 : (some (0,7)) = some (r1,r2) := by rw [if_neg (show ¬ (false = true) by decide)] at H; exact H
     clear H; have H := H1; clear H1; simp only [Option.some.injEq,Prod.mk.injEq] at H; obtain ⟨rfl,rfl⟩ := H
     go_enter Try.func28,Try.ntmps28
     go_wp2_with (first | (go_at_call 11; (with_reducible refine (Zh.calls k _ _ l0 true _ ?side1 ?side2 A3.out).mono ?_); (case side1 => repeat (first | exact HR0.out | (with_reducible refine Kd.ZA ?_ _) | (with_reducible refine Kd.Z9 ?_ _) | (with_reducible refine Kd.ZI ?_))); (case side2 => exact HC0.out); rintro e w17 ⟨rfl,hb⟩; have n0_ := Zc.mk (Z3 (by repeat (first | (with_reducible first | exact HB.out | apply Zd | apply Za | apply Zb) | exact HB.out)) hb); clear HB; have HB := n0_; clear n0_; (try clear hb); (try clear hb2); (try clear hk); (try clear hi)) | (go_at_call 50; (with_reducible refine (Z8.calls a1 false _ A5.out).mono ?_); rintro e w' ⟨rfl,⟨nd,rfl⟩⟩; (try first | exact ⟨rfl,_,World.drewN_drewN _ _ _⟩ | exact ⟨rfl,_,Eq.trans (World.drewN_drewN _ _ _) (congrArg (World.drewN _) (Nat.add_assoc _ _ _))⟩)))
     repeat (go_quiet (first | (go_at_call 11; (with_reducible refine (Zh.calls k _ _ l0 true _ ?side1 ?side2 A3.out).mono ?_); (case side1 => repeat (first | exact HR0.out | (with_reducible refine Kd.ZA ?_ _) | (with_reducible refine Kd.Z9 ?_ _) | (with_reducible refine Kd.ZI ?_))); (case side2 => exact HC0.out); rintro e w17 ⟨rfl,hb⟩; have n0_ := Zc.mk (Z3 (by repeat (first | (with_reducible first | exact HB.out | apply Zd | apply Za | apply Zb) | exact HB.out)) hb); clear HB; have HB := n0_; clear n0_; (try clear hb); (try clear hb2); (try clear hk); (try clear hi)) | (go_at_call 50; (with_reducible refine (Z8.calls a1 false _ A5.out).mono ?_); rintro e w' ⟨rfl,⟨nd,rfl⟩⟩; (try first | exact ⟨rfl,_,World.drewN_drewN _ _ _⟩ | exact ⟨rfl,_,Eq.trans (World.drewN_drewN _ _ _) (congrArg (World.drewN _) (Nat.add_assoc _ _ _))⟩))); try go_wp2_with (first | (go_at_call 11; (with_reducible refine (Zh.calls k _ _ l0 true _ ?side1 ?side2 A3.out).mono ?_); (case side1 => repeat (first | exact HR0.out | (with_reducible refine Kd.ZA ?_ _) | (with_reducible refine Kd.Z9 ?_ _) | (with_reducible refine Kd.ZI ?_))); (case side2 => exact HC0.out); rintro e w17 ⟨rfl,hb⟩; have n0_ := Zc.mk (Z3 (by repeat (first | (with_reducible first | exact HB.out | apply Zd | apply Za | apply Zb) | exact HB.out)) hb); clear HB; have HB := n0_; clear n0_; (try clear hb); (try clear hb2); (try clear hk); (try clear hi)) | (go_at_call 50; (with_reducible refine (Z8.calls a1 false _ A5.out).mono ?_); rintro e w' ⟨rfl,⟨nd,rfl⟩⟩; (try first | exact ⟨rfl,_,World.drewN_drewN _ _ _⟩ | exact ⟨rfl,_,Eq.trans (World.drewN_drewN _ _ _) (congrArg (World.drewN _) (Nat.add_assoc _ _ _))⟩))))
     go_ret2
     exact ⟨by first | rfl | (simp [Zv,Zu] <;> rfl) | (simp [*,Zv,Zu] <;> rfl),by repeat (first | (with_reducible first | exact HB.out | apply Zd | apply Za | apply Zb) | exact HB.out)⟩
 · replace c4 := Bool.eq_false_iff.mpr c4
   subst c4
   have H1 : (some (0,1)) = some (r1,r2) := by rw [if_neg (show ¬ (false = true) by decide)] at H; exact H
   clear H; have H := H1; clear H1; simp only [Option.some.injEq,Prod.mk.injEq] at H; obtain ⟨rfl,rfl⟩ := H
   go_enter Try.func28,Try.ntmps28
   go_wp2_with (first | (go_at_call 11; (with_reducible refine (Zh.calls k _ _ l0 false _ ?side1 ?side2 A3.out).mono ?_); (case side1 => repeat (first | exact HR0.out | (with_reducible refine Kd.ZA ?_ _) | (with_reducible refine Kd.Z9 ?_ _) | (with_reducible refine Kd.ZI ?_))); (case side2 => exact HC0.out); rintro e w18 ⟨rfl,hb⟩; have n0_ := Zc.mk (Z3 (by repeat (first | (with_reducible first | exact HB.out | apply Zd | apply Za | apply Zb) | exact HB.out)) hb); clear HB; have HB := n0_; clear n0_; (try clear hb); (try clear hb2); (try clear hk); (try clear hi)))
   repeat (go_quiet (first | (go_at_call 11; (with_reducible refine (Zh.calls k _ _ l0 false _ ?side1 ?side2 A3.out).mono ?_); (case side1 => repeat (first | exact HR0.out | (with_reducible refine Kd.ZA ?_ _) | (with_reducible refine Kd.Z9 ?_ _) | (with_reducible refine Kd.ZI ?_))); (case side2 => exact HC0.out); rintro e w18 ⟨rfl,hb⟩; have n0_ := Zc.mk (Z3 (by repeat (first | (with_reducible first | exact HB.out | apply Zd | apply Za | apply Zb) | exact HB.out)) hb); clear HB; have HB := n0_; clear n0_; (try clear hb); (try clear hb2); (try clear hk); (try clear hi))); try go_wp2_with (first | (go_at_call 11; (with_reducible refine (Zh.calls k _ _ l0 false _ ?side1 ?side2 A3.out).mono ?_); (case side1 => repeat (first | exact HR0.out | (with_reducible refine Kd.ZA ?_ _) | (with_reducible refine Kd.Z9 ?_ _) | (with_reducible refine Kd.ZI ?_))); (case side2 => exact HC0.out); rintro e w18 ⟨rfl,hb⟩; have n0_ := Zc.mk (Z3 (by repeat (first | (with_reducible first | exact HB.out | apply Zd | apply Za | apply Zb) | exact HB.out)) hb); clear HB; have HB := n0_; clear n0_; (try clear hb); (try clear hb2); (try clear hk); (try clear hi))))
   go_ret2
   exact ⟨by first | rfl | (simp [Zv,Zu] <;> rfl) | (simp [*,Zv,Zu] <;> rfl),by repeat (first | (with_reducible first | exact HB.out | apply Zd | apply Za | apply Zb) | exact HB.out)⟩
end Go.Proofs.Ytomlfbmfdoallaa.PA

namespace Go.Proofs.Ytomlfbmfdoallaa.Pure
open Go.RowKit Go.Proofs.Ytomlfbmfdoallaa.PA Go.Proofs.YtomlfbmfdoallaaW.PrintWords Go.Proofs.YtomlfbmfdoallaaW.PrintLast
set_option linter.unusedVariables false
set_option linter.unusedSimpArgs false
theorem XI (a b : Int) (hb : 0 < b) (hb2 : b ≤ 2305843009213693951) (ha : -2305843009213693951 ≤ a) (ha2 : a ≤ 2305843009213693951) : ZF.f a b = some (rnd a b) := by
 unfold ZF.f rnd; have w1 : wrap64 (2 * b) = 2 * b := w64 (by omega) (by omega)
 by_cases h : a < 0
 · rw [if_pos h,if_pos h,w1,if_neg (by omega),w64 (x := -a) (by omega) (by omega),w64 (x := -a * 2) (by omega) (by omega),w64 (x := -a * 2 + b) (by omega) (by omega)]
   rw [Int.tdiv_eq_ediv_of_nonneg (by omega)]; have q0 : 0 ≤ (-a * 2 + b) / (2 * b) := Int.ediv_nonneg (by omega) (by omega); have q1 : (-a * 2 + b) / (2 * b) ≤ -a * 2 + b := Int.ediv_le_self _ (by omega); rw [w64 (x := _ / _) (by omega) (by omega),w64 (by omega) (by omega)]
   have e : -a * 2 + b = -2 * a + b := by omega
   rw [e]
 · rw [if_neg h,if_neg h,w1,if_neg (by omega),w64 (x := a * 2) (by omega) (by omega),w64 (x := a * 2 + b) (by omega) (by omega)]
   rw [Int.tdiv_eq_ediv_of_nonneg (by omega)]; have q0 : 0 ≤ (a * 2 + b) / (2 * b) := Int.ediv_nonneg (by omega) (by omega); have q1 : (a * 2 + b) / (2 * b) ≤ a * 2 + b := Int.ediv_le_self _ (by omega); rw [w64 (x := _ / _) (by omega) (by omega)]
   have e : a * 2 + b = 2 * a + b := by omega
   rw [e]
theorem Q9 (l : List S27) (hm : MapFrom l) (i : Nat) (hi : i < l.length) (hll : l.length ≤ 100) (n : Int) (h0 : 0 ≤ n) (h1 : n ≤ 1000000000) (h2 : ∀ h : i + 1 < l.length,n ≤ l[i + 1].f0 - l[i].f0) :
 ZT.f l (i : Int) n = some ((crvOf l[i] l[i + 1]?).frames n) := by
 have hmd := hm.drop i; rw [List.drop_eq_getElem_cons hi] at hmd; have hd := hmd.head; unfold ZT.f; rw [if_pos (by omega),if_pos (by omega),rd27 l i hi]
 have hw : wrap64 ((i : Int) + 1) = ((i + 1 : Nat) : Int) := by rw [w64 (by omega) (by omega)]; omega
 by_cases hn : i + 1 < l.length
 · rw [List.drop_eq_getElem_cons hn] at hmd
   have ho := QA hmd h0 (h2 hn); rw [List.getElem?_eq_getElem hn]
   by_cases hc : l[i].f2 = 1
   · have hd2 := hmd.2.2.2.2.2.2.2.2.head
     have hg := hmd.2.2.2.2.2.2.2.1 hc; have hlt := hmd.2.2.2.2.2.2.1; rw [if_neg (by omega),hw,if_pos (by omega),if_pos (by omega),rd27 l (i + 1) hn]; simp only [crvOf,hc,if_true] at ho ⊢; simp only [Crv.frames]; have h2' := h2 hn
     generalize hp : l[i].f1 = p at *
     generalize hq : l[i + 1].f1 = q at *
     generalize hL : l[i + 1].f0 - l[i].f0 = L at *
     obtain ⟨g1,g2,g3,g4,g5,g6,g7,g8⟩ := ho; have b1 := mulb (n := 2 * L) (N := 20000) (p := n) (P := 10000) (by omega) (by omega) (by omega) (by omega); have b2 := mulb (n := 2 * L * n) (N := 200000000) (p := p) (P := 67108864) (by omega) (by omega) (by omega) (by omega); have b3 := mulb (n := p) (N := 67108864) (p := n) (P := 10000) (by omega) (by omega) (by omega) (by omega); have b4 := mulb (n := q) (N := 67108864) (p := n) (P := 10000) (by omega) (by omega) (by omega) (by omega); have e1 : (q - p) * n = q * n - p * n := Int.sub_mul _ _ _
     have c1 : (q * n) * (n - 1) ≤ 671088640000 * 10000 ∧ -671088640000 * 10000 ≤ (q * n) * (n - 1) := by
      by_cases hz : n = 0
      · subst hz; simp
      · have := mulb (n := q * n) (N := 671088640000) (p := n - 1) (P := 10000) (by omega) (by omega) (by omega) (by omega); omega
     have c2 : (p * n) * (n - 1) ≤ 671088640000 * 10000 ∧ -671088640000 * 10000 ≤ (p * n) * (n - 1) := by
      by_cases hz : n = 0
      · subst hz; simp
      · have := mulb (n := p * n) (N := 671088640000) (p := n - 1) (P := 10000) (by omega) (by omega) (by omega) (by omega); omega
     have e2 : (q - p) * n * (n - 1) = q * n * (n - 1) - p * n * (n - 1) := by rw [e1,Int.sub_mul]
     rw [w64 (x := L) (by omega) (by omega),w64 (x := 2 * L) (by omega) (by omega),w64 (x := 2 * L * n) (by omega) (by omega),w64 (x := 2 * L * n * p) (by omega) (by omega),w64 (x := q - p) (by omega) (by omega),w64 (x := (q - p) * n) (by omega) (by omega),w64 (x := n - 1) (by omega) (by omega),w64 (x := (q - p) * n * (n - 1)) (by omega) (by omega),w64 (x := 2 * L * 65536) (by omega) (by omega),w64 (x := 2 * L * n * p + _) (by omega) (by omega),XI _ _ (by omega) (by omega) (by omega) (by omega)]; rfl
   · have hf : l[i].f2 = 0 := by have := hmd.2.2.2.2.1; have := hmd.2.2.2.2.2.1; omega
     rw [if_pos hf]; simp only [crvOf,hc,if_false] at ho ⊢; simp only [Crv.frames]; have b1 := mulb (n := n) (N := 1000000000) (p := l[i].f1) (P := 67108864) (by omega) (by omega) (by omega) (by omega); rw [w64 (x := n * l[i].f1) (by omega) (by omega),XI _ _ (by omega) (by omega) (by omega) (by omega)]; rfl
 · rw [List.drop_eq_nil_of_le (by omega)] at hmd
   rw [List.getElem?_eq_none (by omega)]; rw [if_pos hmd.2.2.2.2]; simp only [crvOf,Crv.frames]; have b1 := mulb (n := n) (N := 1000000000) (p := l[i].f1) (P := 67108864) (by omega) (by omega) (by omega) (by omega); rw [w64 (x := n * l[i].f1) (by omega) (by omega),XI _ _ (by omega) (by omega) (by omega) (by omega)]; rfl
theorem Yu (l : List S27) (hll : l.length ≤ 100) (x : Int) (i : Nat) (hi : i < l.length) (hp : ∀ j (h : j + 1 < l.length),j < i → l[j + 1].f0 ≤ x) (hx : ∀ h : i + 1 < l.length,x < l[i + 1].f0) :
 ∀ (d k j : Nat),i - j = d → j ≤ i → d < k → ZC.l0 k l x (j : Int) = some (i : Int) := by
 intro d
 induction d with
 | zero =>
  intro k j hd hj hk
  obtain ⟨k,rfl⟩ : ∃ m,k = m + 1 := ⟨k - 1,by omega⟩
  obtain rfl : j = i := by omega
  have hw : wrap64 ((j : Int) + 1) = ((j + 1 : Nat) : Int) := by rw [w64 (by omega) (by omega)]; omega
  rw [ZC.l0.eq_2,hw]
  by_cases h : j + 1 < l.length
  · rw [if_pos (by omega),if_pos (by omega),rd27 l (j + 1) h,if_neg (by have := hx h; omega)]
  · rw [if_neg (by omega)]
 | succ d ih =>
  intro k j hd hj hk
  obtain ⟨k,rfl⟩ : ∃ m,k = m + 1 := ⟨k - 1,by omega⟩
  have hw : wrap64 ((j : Int) + 1) = ((j + 1 : Nat) : Int) := by rw [w64 (by omega) (by omega)]; omega
  have h : j + 1 < l.length := by omega
  rw [ZC.l0.eq_2,hw,if_pos (by omega),if_pos (by omega),rd27 l (j + 1) h,if_pos (hp j h (by omega))]; exact ih k (j + 1) (by omega) (by omega) (by omega)
theorem frame_loop (l : List S27) (hm : MapFrom l) (hll : l.length ≤ 100) (x : Int) (hx1 : x ≤ 1000000000) : ∀ (d k i : Nat) (s : Int),l.length - i = d + 1 → d + 101 < k → (∀ j (h : j + 1 < l.length),j < i → l[j + 1].f0 ≤ x) → (∀ h : i < l.length,l[i].f0 ≤ x) →
 0 ≤ s → s ≤ 1000000000000000 - (l.length - i : Int) * 1024000000001 → Z7.l0 k l s x (i : Int) = some (fr (l.drop i) s x) ∧ s ≤ fr (l.drop i) s x ∧ fr (l.drop i) s x ≤ s + (l.length - i : Int) * 1024000000001 := by
 intro d
 induction d with
 | zero =>
  intro k i s hd hk hp hx hs0 hs1
  obtain ⟨k,rfl⟩ : ∃ m,k = m + 1 := ⟨k - 1,by omega⟩
  have hi : i < l.length := by omega
  have hx := hx hi
  have hw : wrap64 ((i : Int) + 1) = ((i + 1 : Nat) : Int) := by rw [w64 (by omega) (by omega)]; omega
  have hmd := hm.drop i; rw [List.drop_eq_getElem_cons hi] at hmd; have hd' := hmd.head; rw [List.drop_eq_nil_of_le (by omega)] at hmd; have hl := Q9 l hm i hi hll (x - l[i].f0) (by omega) (by omega) (fun h => absurd h (by omega)); rw [List.getElem?_eq_none (by omega)] at hl; have hb : 0 ≤ (crvOf l[i] none).frames (x - l[i].f0) ∧ (crvOf l[i] none).frames (x - l[i].f0) ≤ 1024000000001 := Qw _ _ (by omega) (by omega) hmd.2.2.1 hmd.2.2.2.1
  have hdr : fr (l.drop i) s x = s + (crvOf l[i] none).frames (x - l[i].f0) := by
   rw [List.drop_eq_getElem_cons hi,List.drop_eq_nil_of_le (by omega)]; rfl
  rw [Z7.l0.eq_2,hw,if_neg (by omega),show ZC.f k l x = ZC.l0 k l x ((0 : Nat) : Int) from rfl,Yu l hll x i hi hp (fun h => absurd h (by omega)) i k 0 (by omega) (by omega) (by omega)]; simp only [Option.bind_some]; rw [if_pos (by omega),if_pos (by omega),rd27 l i hi,w64 (x := x - l[i].f0) (by omega) (by omega),hl,hdr]; simp only [Option.bind_some]; rw [w64 (by omega) (by omega)]; exact ⟨rfl,by omega,by omega⟩
 | succ d ih =>
  intro k i s hd hk hp hx hs0 hs1
  obtain ⟨k,rfl⟩ : ∃ m,k = m + 1 := ⟨k - 1,by omega⟩
  have hi : i < l.length := by omega
  have hi2 : i + 1 < l.length := by omega
  have hx := hx hi
  have hw : wrap64 ((i : Int) + 1) = ((i + 1 : Nat) : Int) := by rw [w64 (by omega) (by omega)]; omega
  have hmd := hm.drop i; rw [List.drop_eq_getElem_cons hi,List.drop_eq_getElem_cons hi2] at hmd; have hd' := hmd.head; have hd2 := hmd.2.2.2.2.2.2.2.2.head; have hlt := hmd.2.2.2.2.2.2.1; rw [Z7.l0.eq_2,hw,if_pos (by omega),if_pos (by omega),rd27 l (i + 1) hi2,rd27 l i hi]
  by_cases hc : l[i + 1].f0 ≤ x
  · have hl := Q9 l hm i hi hll (l[i + 1].f0 - l[i].f0) (by omega) (by omega) (fun h => Int.le_refl _)
    rw [List.getElem?_eq_getElem hi2] at hl; have hb := (QA hmd (n := l[i + 1].f0 - l[i].f0) (by omega) (Int.le_refl _)).bound; rw [if_pos hc,if_pos (by omega),if_pos (by omega),w64 (x := l[i + 1].f0 - l[i].f0) (by omega) (by omega),hl]; simp only [Option.bind_some]
    have hdr : fr (l.drop i) s x = fr (l.drop (i + 1)) (s + (crvOf l[i] (some l[i + 1])).frames (l[i + 1].f0 - l[i].f0)) x := by
     rw [List.drop_eq_getElem_cons hi,List.drop_eq_getElem_cons hi2]; simp [fr,hc]
    rw [hdr]
    generalize (crvOf l[i] (some l[i + 1])).frames (l[i + 1].f0 - l[i].f0) = F at *
    have hlen : ((l.length : Int) - (i : Int)) * 1024000000001 = ((l.length : Int) - ((i + 1 : Nat) : Int)) * 1024000000001 + 1024000000001 := by omega
    rw [w64 (x := s + F) (by omega) (by omega)]
    obtain ⟨r1,r2,r3⟩ := ih k (i + 1) (s + F) (by omega) (by omega) (fun j hj hji => by
     by_cases hc2 : j < i
     · exact hp j hj hc2
     · obtain rfl : j = i := by omega
       exact hc) (fun _ => hc) (by omega) (by omega)
    exact ⟨r1,by omega,by omega⟩
  · have hl := Q9 l hm i hi hll (x - l[i].f0) (by omega) (by omega) (fun h => by omega)
    rw [List.getElem?_eq_getElem hi2] at hl; have hb := (QA hmd (n := x - l[i].f0) (by omega) (by omega)).bound
    have hdr : fr (l.drop i) s x = s + (crvOf l[i] (some l[i + 1])).frames (x - l[i].f0) := by
     rw [List.drop_eq_getElem_cons hi,List.drop_eq_getElem_cons hi2]; simp [fr,hc]
    rw [if_neg hc,show ZC.f k l x = ZC.l0 k l x ((0 : Nat) : Int) from rfl,Yu l hll x i hi hp (fun h => by omega) i k 0 (by omega) (by omega) (by omega)]; simp only [Option.bind_some]; rw [if_pos (by omega),if_pos (by omega),rd27 l i hi,w64 (x := x - l[i].f0) (by omega) (by omega),hl,hdr]; simp only [Option.bind_some]
    generalize (crvOf l[i] (some l[i + 1])).frames (x - l[i].f0) = F at *
    rw [w64 (by omega) (by omega)]
    have : (1 : Int) ≤ (l.length : Int) - (i : Int) := by omega
    exact ⟨rfl,by omega,by omega⟩
theorem Qc (l : List S27) (hok : MapOk l) (s x : Int) (hs0 : 0 ≤ s) (hs1 : s ≤ 1000000000) (hx0 : 0 ≤ x) (hx1 : x ≤ 1000000000) (k : Nat) (hk : 201 < k) :
 Z7.f k l s x = some (fr l s x) ∧ s ≤ fr l s x ∧ fr l s x ≤ s + 52000000000000 := by
 obtain ⟨h1,h2,h3,h4⟩ := hok
 obtain ⟨r1,r2,r3⟩ := frame_loop l h4 (by omega) x hx1 (l.length - 1) k 0 s (by omega) (by omega) (fun j _ h => absurd h (by omega)) (fun h => by
  have := h3 l[0] (by cases l with | nil => simp at h | cons a b => rfl)
  omega) hs0 (by omega)
 rw [List.drop_zero] at r1 r2 r3; exact ⟨r1,r2,by omega⟩
theorem last_loop (l : List S27) (hok : MapOk l) (s y : Int) (hs0 : 0 ≤ s) (hs1 : s ≤ 1000000000) : ∀ (d k : Nat) (lo hi : Int),0 ≤ lo → hi ≤ 1000000000 → lo ≤ hi → (hi - lo).toNat < 2 ^ d → d + 202 < k →
 Z5.l0 k l s y lo hi = some (bs (fun n => decide (fr l s n ≤ y)) lo hi) := by
 intro d
 induction d with
 | zero =>
  intro k lo hi h0 h1 h2 h3 hk
  obtain ⟨k,rfl⟩ : ∃ m,k = m + 1 := ⟨k - 1,by omega⟩
  have e : lo = hi := by simp at h3; omega
  subst e; rw [Z5.l0.eq_2,if_neg (by omega)]; unfold bs; rw [if_neg (by omega)]
 | succ d ih =>
  intro k lo hi h0 h1 h2 h3 hk
  obtain ⟨k,rfl⟩ : ∃ m,k = m + 1 := ⟨k - 1,by omega⟩
  rw [Z5.l0.eq_2]
  by_cases hlt : lo < hi
  · have hp : 2 ^ (d + 1) = 2 * 2 ^ d := by rw [Nat.pow_succ]; omega
    rw [hp] at h3
    have hmid : wrap64 (Int.tdiv (wrap64 ((wrap64 (lo + hi)) + 1)) 2) = lo + (hi - lo + 1) / 2 := by
     rw [w64 (x := lo + hi) (by omega) (by omega),w64 (x := lo + hi + 1) (by omega) (by omega),Int.tdiv_eq_ediv_of_nonneg (by omega),w64 (by omega) (by omega)]; omega
    rw [if_pos hlt,hmid,(Qc l hok s _ hs0 hs1 (by omega) (by omega) k (by omega)).1]; simp only [Option.bind_some]
    conv => rhs; unfold bs
    rw [if_pos hlt]; simp only [decide_eq_true_eq]
    by_cases hc : fr l s (lo + (hi - lo + 1) / 2) ≤ y
    · rw [if_pos hc,if_pos hc]
      exact ih k _ hi (by omega) h1 (by omega) (by omega) (by omega)
    · rw [if_neg hc,if_neg hc,w64 (x := lo + (hi - lo + 1) / 2 - 1) (by omega) (by omega)]
      exact ih k lo _ h0 (by omega) (by omega) (by omega) (by omega)
  · rw [if_neg hlt]
    unfold bs; rw [if_neg hlt]
theorem QN (l : List S27) (hok : MapOk l) (s y : Int) (hs0 : 0 ≤ s) (hs1 : s ≤ 1000000000) (k : Nat) (hk : 240 < k) :
 Z5.f k l s y = some (bs (fun n => decide (fr l s n ≤ y)) 0 1000000000) :=
 last_loop l hok s y hs0 hs1 30 k 0 1000000000 (by omega) (by omega) (by omega) (by decide) (by omega)
theorem Yq {a b n : Int} (hn : 0 < n) (ha : 0 ≤ a) (hab : a ≤ b) : rnd a n ≤ rnd b n := by
 unfold rnd; rw [if_neg (by omega),if_neg (by omega)]; exact Int.ediv_le_ediv (by omega) (by omega)
theorem Crv.QE {c : Crv} {n : Int} (h0 : 0 ≤ n) (h : c.Ok (n + 1)) : c.frames n ≤ c.frames (n + 1) := by
 cases c with
 | even p =>
  obtain ⟨h1,h2,h3,h4⟩ := h; have := mulb (n := n) (N := 1000000000) (p := p) (P := 67108864) (by omega) (by omega) (by omega) (by omega); exact Yq (by omega) this.1 (by rw [Int.add_mul]; omega)
 | changing p q l =>
  obtain ⟨h1,h2,h3,h4,h5,h6,h7,h8⟩ := h; obtain ⟨g1,g2⟩ := Q4 p q l n h0 (by omega) h5 h1 h3 67108864 h2 h4; refine Yq (by omega) g1 ?_
  have e : 2 * l * (n + 1) * p + (q - p) * (n + 1) * (n + 1 - 1) = (2 * l * n * p + (q - p) * n * (n - 1)) + 2 * ((l - n) * p + n * q) := by grind
  have a1 : 0 ≤ (l - n) * p := Int.mul_nonneg (by omega) (by omega); have a2 : 0 ≤ n * q := Int.mul_nonneg (by omega) (by omega); rw [e]; omega
theorem Yy : ∀ (l : List S27) (s n : Int),MapFrom l → l ≠ [] → (∀ t,l.head? = some t → t.f0 ≤ n) → n + 1 ≤ 1000000000 → fr l s n ≤ fr l s (n + 1)
 | [],_,_,_,h,_,_ => absurd rfl h
 | [t],s,n,hm,_,hh,hn => by
  have ht := hh t rfl; obtain ⟨m0,m1,m2,m3,m4⟩ := hm; have := Crv.QE (c := .even t.f1) (n := n - t.f0) (by omega) ⟨m2,m3,by omega,by omega⟩; show s + _ ≤ s + _; rw [show n + 1 - t.f0 = n - t.f0 + 1 by omega]; omega
 | t :: t2 :: r,s,n,hm,_,hh,hn => by
  have ht := hh t rfl; have hm8 := hm.2.2.2.2.2.2.2.2; have hlt := hm.2.2.2.2.2.2.1
  by_cases h1 : t2.f0 ≤ n
  · simp only [fr,if_pos h1,if_pos (show t2.f0 ≤ n + 1 by omega)]
    exact Yy (t2 :: r) _ n hm8 (by simp) (fun t' e => by cases e; exact h1) hn
  · have hs := Crv.QE (c := crvOf t (some t2)) (n := n - t.f0) (by omega) (QA hm (by omega) (by omega))
    rw [show n - t.f0 + 1 = n + 1 - t.f0 by omega] at hs
    by_cases h2 : t2.f0 ≤ n + 1
    · have e : n + 1 = t2.f0 := by omega
      have hz : fr (t2 :: r) (s + (crvOf t (some t2)).frames (t2.f0 - t.f0)) (n + 1) = s + (crvOf t (some t2)).frames (t2.f0 - t.f0) := by
       rw [e]
       cases r with
       | nil =>
        show _ + rnd ((t2.f0 - t2.f0) * t2.f1) 65536 = _; rw [Int.sub_self,Int.zero_mul,show rnd 0 65536 = 0 by decide]; omega
       | cons t3 r =>
        have h23 := hm8.2.2.2.2.2.2.1; simp only [fr,if_neg (show ¬ t3.f0 ≤ t2.f0 by omega)]
        have hz : (crvOf t2 (some t3)).frames (t2.f0 - t2.f0) = 0 := by
         rw [Int.sub_self]; unfold crvOf
         by_cases hc : t2.f2 = 1
         · simp only [hc,if_true,Crv.frames]
           have : 2 * (t3.f0 - t2.f0) * 0 * t2.f1 + (t3.f1 - t2.f1) * 0 * (0 - 1) = 0 := by simp
           rw [this]; unfold rnd; rw [if_neg (by omega)]; exact Int.ediv_eq_zero_of_lt (by omega) (by omega)
         · simp only [hc,if_false,Crv.frames,Int.zero_mul]
           decide
        rw [hz]; omega
      simp only [fr,if_neg h1,if_pos h2] at hz ⊢
      have hz' : fr (t2 :: r) (s + (crvOf t (some t2)).frames (t2.f0 - t.f0)) (n + 1) = s + (crvOf t (some t2)).frames (t2.f0 - t.f0) := by simpa [fr] using hz
      rw [hz',← e]; omega
    · simp only [fr,if_neg h1,if_neg h2]
      omega
theorem fr_mono (l : List S27) (s : Int) (hok : MapOk l) (d : Nat) : ∀ n : Int,0 ≤ n → n + d ≤ 1000000000 → fr l s n ≤ fr l s (n + d) := by
 obtain ⟨h1,h2,h3,h4⟩ := hok
 induction d with
 | zero => intro n _ _; simp
 | succ d ih =>
  intro n h0 h1'; have a := ih n h0 (by omega); have b := Yy l s (n + d) h4 (by intro e; subst e; simp at h1) (fun t e => by rw [h3 t e]; omega) (by omega); rw [show n + ((d + 1 : Nat) : Int) = n + d + 1 by omega]; omega
theorem fr_le {l : List S27} {s : Int} (hok : MapOk l) {a b : Int} (h0 : 0 ≤ a) (hab : a ≤ b) (hb : b ≤ 1000000000) : fr l s a ≤ fr l s b := by
 have := fr_mono l s hok (b - a).toNat a h0 (by omega)
 rwa [show a + ((b - a).toNat : Int) = b by omega] at this
theorem bs_spec (p : Int → Bool) (lo hi : Int) (h : lo ≤ hi) (hm : ∀ a b,lo ≤ a → a ≤ b → b ≤ hi → p b = true → p a = true) (h0 : p lo = true) :
 lo ≤ bs p lo hi ∧ bs p lo hi ≤ hi ∧ p (bs p lo hi) = true ∧ ∀ a,lo ≤ a → a ≤ hi → p a = true → a ≤ bs p lo hi := by
 generalize hd : (hi - lo).toNat = d
 induction d using Nat.strongRecOn generalizing lo hi with
 | _ d ih =>
  unfold bs
  by_cases hlt : lo < hi
  · rw [if_pos hlt]
    by_cases hc : p (lo + (hi - lo + 1) / 2) = true
    · rw [if_pos hc]
      obtain ⟨a1,a2,a3,a4⟩ := ih _ (by omega) (lo + (hi - lo + 1) / 2) hi (by omega) (fun a b ha hab hb => hm a b (by omega) hab hb) hc rfl; refine ⟨by omega,a2,a3,fun a ha hb hp => ?_⟩
      by_cases hx : lo + (hi - lo + 1) / 2 ≤ a
      · exact a4 a hx hb hp
      · omega
    · rw [if_neg hc]
      obtain ⟨a1,a2,a3,a4⟩ := ih _ (by omega) lo (lo + (hi - lo + 1) / 2 - 1) (by omega) (fun a b ha hab hb => hm a b ha hab (by omega)) h0 rfl; refine ⟨a1,by omega,a3,fun a ha hb hp => ?_⟩
      by_cases hx : a ≤ lo + (hi - lo + 1) / 2 - 1
      · exact a4 a ha hx hp
      · exact absurd (hm _ a (by omega) (by omega) hb hp) hc
  · rw [if_neg hlt]
    exact ⟨Int.le_refl _,by omega,h0,fun a _ _ _ => by omega⟩
end Go.Proofs.Ytomlfbmfdoallaa.Pure

namespace Go.Proofs.Ytomlfbmfdoallaa.Pure
open Go.RowKit Go.Proofs.Ytomlfbmfdoallaa.PA Go.Proofs.YtomlfbmfdoallaaW.PrintWords Go.Proofs.YtomlfbmfdoallaaW.PrintLast
set_option linter.unusedVariables false
set_option linter.unusedSimpArgs false
theorem rd56 (l : List S56) (i : Nat) (h : i < l.length) : Zg l (i : Int) = l[i] := by simp [Zg,h]
def cvL : Option S56 → List S56 → Bool
 | _,[] => true
 | p,t :: r => okC t && (match p with | none => true | some q => decide (q.f0 < t.f0)) && (match r.head? with | none => true | some t2 => decide (t.f2 ≠ 2) || decide (wrap64 (t2.f0 - t.f0) ≤ 1000)) && cvL (some t) r
theorem QF (l : List S56) (i : Nat) (h : i < l.length) : (if i + 1 = 0 then none else l[i + 1 - 1]?) = some l[i] := by simp [h]
theorem refc_loop (l : List S56) (hl : l.length ≤ 200) : ∀ (d k i : Nat),l.length - i = d → i ≤ l.length → 2 * d < k → Zq.l0 k l (i : Int) = some (cvL (if i = 0 then none else l[i - 1]?) (l.drop i) && (decide (1 ≤ l.length) && decide (l.length ≤ 100))) := by
 intro d
 induction d with
 | zero =>
  intro k i hd hi hk
  obtain ⟨k,rfl⟩ : ∃ m,k = m + 1 := ⟨k - 1,by omega⟩
  rw [Zq.l0.eq_2]; rw [if_neg (by omega),List.drop_eq_nil_of_le (by omega)]
  by_cases h1 : 1 ≤ l.length
  · rw [if_pos (by omega)]
    by_cases h2 : l.length ≤ 100
    · simp [cvL,h1,h2]; omega
    · simp [cvL,h1,h2]; omega
  · rw [if_neg (by omega)]; simp [cvL,h1]
 | succ d ih =>
  intro k i hd hi hk
  obtain ⟨k,rfl⟩ : ∃ m,k = m + 1 + 1 := ⟨k - 2,by omega⟩
  have hlt : i < l.length := by omega
  have hih := ih k (i + 1) (by omega) (by omega) (by omega); rw [QF l i hlt] at hih
  have hw : wrap64 ((i : Int) + 1) = ((i + 1 : Nat) : Int) := by rw [w64 (by omega) (by omega)]; omega
  generalize (decide (1 ≤ l.length) && decide (l.length ≤ 100)) = E at hih ⊢
  have hj : ∀ b : Bool,Zq.j1 (k + 1) l (i : Int) b l[i].f0 l[i].f1 l[i].f2 = some (!b && ((match (l.drop (i + 1)).head? with | none => true | some t2 => decide (l[i].f2 ≠ 2) || decide (wrap64 (t2.f0 - l[i].f0) ≤ 1000)) && cvL (some l[i]) (l.drop (i + 1))) && E) := by
   intro b; rw [Zq.j1.eq_2,hw,hih,show (l.drop (i + 1)).head? = l[i + 1]? by simp]
   cases b with
   | true => rfl
   | false =>
    rw [if_neg (by simp)]
    by_cases h1 : l[i].f2 = 2
    · rw [if_pos h1]
      by_cases h2 : i + 1 < l.length
      · rw [if_pos (by omega),if_pos (by omega),rd56 l (i + 1) h2,List.getElem?_eq_getElem h2]
        by_cases h3 : wrap64 (l[i + 1].f0 - l[i].f0) ≤ 1000
        · rw [if_neg (by omega)]; simp [h1,h3]
        · rw [if_pos (by omega)]; simp [h1,h3]
      · rw [if_neg (by omega),List.getElem?_eq_none (by omega)]
        simp
    · rw [if_neg h1]
      by_cases h2 : i + 1 < l.length
      · rw [List.getElem?_eq_getElem h2]; simp [h1]
      · rw [List.getElem?_eq_none (by omega)]; simp
  rw [Zq.l0.eq_2]; rw [if_pos (by omega),if_pos (by omega),rd56 l i hlt]; simp only [hj]; rw [List.drop_eq_getElem_cons hlt]; simp only [cvL]; generalize hM : ((match (l.drop (i + 1)).head? with | none => true | some t2 => decide (l[i].f2 ≠ 2) || decide (wrap64 (t2.f0 - l[i].f0) ≤ 1000))) = M; generalize hR : cvL (some l[i]) (l.drop (i + 1)) = R
  by_cases h0 : i = 0
  · subst h0
    rw [if_neg (show ¬ (((0 : Nat) : Int) > 0) by omega)]; simp only [okC,if_true]; clear hM hR hj hih ih; generalize l[0] = m
    repeat' split
    all_goals (first | (simp_all; done) | (simp_all; omega) | (simp_all; intros; exfalso; omega) | (congr 1; rw [Bool.eq_iff_iff]; simp only [Bool.and_eq_true,decide_eq_true_eq] at *; cases M <;> cases R <;> cases E <;> simp <;> omega))
  · have hw2 : wrap64 ((i : Int) - 1) = ((i - 1 : Nat) : Int) := by rw [w64 (by omega) (by omega)]; omega
    rw [if_pos (show (i : Int) > 0 by omega),hw2,if_pos (show (0 : Int) ≤ ((i - 1 : Nat) : Int) by omega),if_pos (show ((i - 1 : Nat) : Int) < (l.length : Int) by omega),rd56 l (i - 1) (by omega)]; rw [if_neg h0,List.getElem?_eq_getElem (show i - 1 < l.length by omega)]; simp only [okC]; clear hM hR hj hih ih; generalize l[i - 1] = q; generalize l[i] = m
    repeat' split
    all_goals (first | (simp_all; done) | (simp_all; omega) | (simp_all; intros; exfalso; omega) | (congr 1; rw [Bool.eq_iff_iff]; simp only [Bool.and_eq_true,decide_eq_true_eq] at *; cases M <;> cases R <;> cases E <;> simp <;> omega))
theorem c_loop (l : List S56) (hl : l.length ≤ 200) : ∀ (d k i : Nat),l.length - i = d → i ≤ l.length → 2 * d < k → Zm.l0 k l l (l.length : Int) (i : Int) = some (cvL (if i = 0 then none else l[i - 1]?) (l.drop i)) := by
 intro d
 induction d with
 | zero =>
  intro k i hd hi hk
  obtain ⟨k,rfl⟩ : ∃ m,k = m + 1 := ⟨k - 1,by omega⟩
  rw [Zm.l0.eq_2]; rw [if_neg (by omega),List.drop_eq_nil_of_le (by omega)]; rfl
 | succ d ih =>
  intro k i hd hi hk
  obtain ⟨k,rfl⟩ : ∃ m,k = m + 1 + 1 := ⟨k - 2,by omega⟩
  have hlt : i < l.length := by omega
  have hih := ih k (i + 1) (by omega) (by omega) (by omega); rw [QF l i hlt] at hih
  have hw : wrap64 ((i : Int) + 1) = ((i + 1 : Nat) : Int) := by rw [w64 (by omega) (by omega)]; omega
  have hj : ∀ b : Bool,Zm.j1 (k + 1) l (i : Int) l (l.length : Int) (i : Int) b l[i].f0 l[i].f1 l[i].f2 = some (!b && ((match (l.drop (i + 1)).head? with | none => true | some t2 => decide (l[i].f2 ≠ 2) || decide (wrap64 (t2.f0 - l[i].f0) ≤ 1000)) && cvL (some l[i]) (l.drop (i + 1)))) := by
   intro b; rw [Zm.j1.eq_2,hw,hih,show (l.drop (i + 1)).head? = l[i + 1]? by simp]
   cases b with
   | true => rfl
   | false =>
    rw [if_neg (by simp)]
    by_cases h1 : l[i].f2 = 2
    · rw [if_pos h1]
      by_cases h2 : i + 1 < l.length
      · rw [if_pos (by omega),if_pos (by omega),rd56 l (i + 1) h2,List.getElem?_eq_getElem h2]
        by_cases h3 : wrap64 (l[i + 1].f0 - l[i].f0) ≤ 1000
        · rw [if_neg (by omega)]; simp [h1,h3]
        · rw [if_pos (by omega)]; simp [h1,h3]
      · rw [if_neg (by omega),List.getElem?_eq_none (by omega)]
        simp
    · rw [if_neg h1]
      by_cases h2 : i + 1 < l.length
      · rw [List.getElem?_eq_getElem h2]; simp [h1]
      · rw [List.getElem?_eq_none (by omega)]; simp
  rw [Zm.l0.eq_2]; rw [if_pos (by omega),if_pos (by omega),if_pos (by omega),rd56 l i hlt]; simp only [hj]; rw [List.drop_eq_getElem_cons hlt]; simp only [cvL,Z6.eq,Option.bind_some]; generalize hM : ((match (l.drop (i + 1)).head? with | none => true | some t2 => decide (l[i].f2 ≠ 2) || decide (wrap64 (t2.f0 - l[i].f0) ≤ 1000))) = M; generalize hR : cvL (some l[i]) (l.drop (i + 1)) = R
  by_cases h0 : i = 0
  · subst h0
    rw [if_neg (show ¬ (((0 : Nat) : Int) > 0) by omega)]; simp only [okC,if_true]; clear hM hR hj hih ih; generalize l[0] = m
    repeat' split
    all_goals (first | (simp_all; done) | (simp_all; omega) | (simp_all; intros; exfalso; omega) | (congr 1; rw [Bool.eq_iff_iff]; simp only [Bool.and_eq_true,decide_eq_true_eq] at *; cases M <;> cases R <;> simp <;> omega))
  · have hw2 : wrap64 ((i : Int) - 1) = ((i - 1 : Nat) : Int) := by rw [w64 (by omega) (by omega)]; omega
    rw [if_pos (show (i : Int) > 0 by omega),hw2,if_pos (show (0 : Int) ≤ ((i - 1 : Nat) : Int) by omega),if_pos (show ((i - 1 : Nat) : Int) < (l.length : Int) by omega),rd56 l (i - 1) (by omega)]; rw [if_neg h0,List.getElem?_eq_getElem (show i - 1 < l.length by omega)]; simp only [okC]; clear hM hR hj hih ih; generalize l[i - 1] = q; generalize l[i] = m
    repeat' split
    all_goals (first | (simp_all; done) | (simp_all; omega) | (simp_all; intros; exfalso; omega) | (congr 1; rw [Bool.eq_iff_iff]; simp only [Bool.and_eq_true,decide_eq_true_eq] at *; cases M <;> cases R <;> simp <;> omega))
theorem Yx : ∀ (l : List S56) (p : Option S56),cvL p l = (curveFromB l && (match p,l.head? with | some q,some t => decide (q.f0 < t.f0) | _,_ => true))
 | [],p => by cases p <;> rfl
 | [t],p => by
  cases p with
  | none => simp [cvL,curveFromB]
  | some q => simp [cvL,curveFromB]
 | t :: t2 :: r,p => by
  have ih := Yx (t2 :: r) (some t); have e : cvL p (t :: t2 :: r) = (okC t && (match p with | none => true | some q => decide (q.f0 < t.f0)) && (decide (t.f2 ≠ 2) || decide (wrap64 (t2.f0 - t.f0) ≤ 1000)) && cvL (some t) (t2 :: r)) := rfl; rw [e,ih]
  have key : ∀ P : Bool,(okC t && P && (decide (t.f2 ≠ 2) || decide (wrap64 (t2.f0 - t.f0) ≤ 1000)) && (curveFromB (t2 :: r) && decide (t.f0 < t2.f0))) = (okC t && decide (t.f0 < t2.f0) && (decide (t.f2 ≠ 2) || decide (t2.f0 - t.f0 ≤ 1000)) && curveFromB (t2 :: r) && P) := by
   intro P
   by_cases hr : curveFromB (t2 :: r) = true
   · by_cases ht : okC t = true
     · have o2 := (Qs t2).1 (XU hr)
       have o1 := (Qs t).1 ht; rw [w64 (by omega) (by omega)]; generalize okC t = A; generalize curveFromB (t2 :: r) = B; generalize decide (t.f0 < t2.f0) = D; generalize (decide (t.f2 ≠ 2) || decide (t2.f0 - t.f0 ≤ 1000)) = F
       cases A <;> cases B <;> cases D <;> cases F <;> cases P <;> rfl
     · simp [ht]
   · simp [hr]
  cases p with
  | none => exact key true
  | some q => exact key (decide (q.f0 < t.f0))
theorem refc_eq (l : List S56) (hl : l.length ≤ 200) : Zq.f 410 l = some (curveB l) := by
 unfold Zq.f curveB; have := refc_loop l hl l.length 410 0 (by omega) (by omega) (by omega); simp only [if_true,List.drop_zero] at this; rw [show ((0 : Nat) : Int) = 0 from rfl,Yx] at this; rw [this]; simp only [Bool.and_true]; rw [Bool.and_comm]
theorem c_eq (l : List S56) (hl : l.length ≤ 200) : Zm.f 410 l = some (curveB l) := by
 unfold Zm.f curveB; simp only [Z6.eq,Option.bind_some]
 by_cases h : 1 ≤ l.length ∧ l.length ≤ 100
 · rw [if_pos (by simp; omega)]
   have := c_loop l hl l.length 410 0 (by omega) (by omega) (by omega); simp only [if_true,List.drop_zero] at this; rw [show ((0 : Nat) : Int) = 0 from rfl,Yx] at this; rw [this]; simp [h.1,h.2]
 · rw [if_neg (by simp; omega)]
   congr 1
   by_cases h1 : 1 ≤ l.length
   · simp [h1,show ¬ l.length ≤ 100 by omega]
   · simp [h1]
end Go.Proofs.Ytomlfbmfdoallaa.Pure

namespace Go.Proofs.Ytomlfbmfdoallaa.PA
open Go.RowKit Go.Proofs.YtomlfbmfdoallaaW.PrintWords Go.Proofs.YtomlfbmfdoallaaW.PrintLast Go.Proofs.YtomlfbmfdoallaaW.PrintMore
attribute [local go_sem] Xf Xg Xo Xn Xa ZZ Xh Xi
set_option linter.unusedVariables false
set_option linter.unusedSimpArgs false
end Go.Proofs.Ytomlfbmfdoallaa.PA

namespace Go.Proofs.Ytomlfbmfdoallaa.PA
open Go.RowKit Go.Proofs.YtomlfbmfdoallaaW.PrintWords Go.Proofs.YtomlfbmfdoallaaW.PrintLast Go.Proofs.YtomlfbmfdoallaaW.PrintMore
attribute [local go_sem] Xf Xg Xo Xn Xa ZZ Xh Xi
set_option linter.unusedVariables false
set_option linter.unusedSimpArgs false
def ZB.j0 : Nat → List (S27) → Int → Int → Bool → Option (Int × Int)
 | 0,_,_,_,_ => none
 | k + 1,x0,x1,x2,x19 => if x19 = true then (some (0,7)) else ((Z7.f k x0 x1 x2).bind fun t289 => (if t289 > 1000000000 then (some (0,7)) else (some (t289,0))))
def ZB.f (k : Nat) (l0 : List (S27)) (a1 : Int) (a2 : Int) : Option (Int × Int) := (Zh.f k l0).bind fun t286 => (if t286 = true then ((Z8.f a1).bind fun t287 => (if t287 = true then ((Z8.f a2).bind fun t288 => (ZB.j0 k l0 a1 a2 (!t288))) else (ZB.j0 k l0 a1 a2 true))) else (some (0,1)))
theorem ZB.Xq : ∀ k,(∀ y0 y1 y2 y3,LeO (ZB.j0 k y0 y1 y2 y3) (ZB.j0 (k + 1) y0 y1 y2 y3))
 | 0 => fun _ _ _ _ r h => by simp [ZB.j0] at h
 | k + 1 => by
  have ih0 := ZB.Xq k
  · intro y0 y1 y2 y3
    unfold ZB.j0
    repeat' first
    | (with_reducible exact ih0 _ _ _ _)
    | (with_reducible exact Zh.mono _ _)
    | (with_reducible exact Z7.mono _ _ _ _)
    | (with_reducible exact LeO.refl _)
    | (with_reducible exact LeO.none _)
    | (with_reducible refine LeO.ite ?_ ?_)
    | (with_reducible refine LeO.bind ?_ (fun _ => ?_))
    | exact ih0 _ _ _ _
    | exact Zh.mono _ _
    | exact Z7.mono _ _ _ _
    | exact LeO.none _
    | refine LeO.ite ?_ ?_
    | refine LeO.bind ?_ (fun _ => ?_)
theorem ZB.mono : ∀ a0 a1 a2 k,LeO (ZB.f k a0 a1 a2) (ZB.f (k + 1) a0 a1 a2) := by
 intro a0 a1 a2 k; have ih0 := ZB.Xq k; unfold ZB.f
 repeat' first
  | (with_reducible exact ih0 _ _ _ _)
  | (with_reducible exact Zh.mono _ _)
  | (with_reducible exact Z7.mono _ _ _ _)
  | (with_reducible exact LeO.refl _)
  | (with_reducible exact LeO.none _)
  | (with_reducible refine LeO.ite ?_ ?_)
  | (with_reducible refine LeO.bind ?_ (fun _ => ?_))
  | exact ih0 _ _ _ _
  | exact Zh.mono _ _
  | exact Z7.mono _ _ _ _
  | exact LeO.none _
  | refine LeO.ite ?_ ?_
  | refine LeO.bind ?_ (fun _ => ?_)
set_option maxHeartbeats 8000000 in
set_option maxRecDepth 100000 in
theorem ZB.calls (k : Nat) (A0 : Option Addr) (c0 : Nat) (l0 : List (S27)) (a1 : Int) (a2 : Int) (r1 : Int) (r2 : Int) (w : World) (hr0 : Kd.C k27 w A0 l0.length l0) (hc0 : l0.length ≤ c0) (h : ZB.f k l0 a1 a2 = some (r1,r2)) :
 Calls Try.prog 24 #[.slice A0 l0.length c0,.int .i64 a1,.int .i64 a2] w fun e w' => e = .returned (.tuple #[.int .i64 r1,.int .i64 r2]) ∧ Below w.heap.size w w' := by
 have HR0 := Zc.mk hr0; have HC0 := Zc.mk hc0; clear hr0 hc0; have HB := Zc.mk (Below.refl w.heap.size w); have H : ((Zh.f k l0).bind fun t286 => (if t286 = true then ((Z8.f a1).bind fun t287 => (if t287 = true then ((Z8.f a2).bind fun t288 => (ZB.j0 k l0 a1 a2 (!t288))) else (ZB.j0 k l0 a1 a2 true))) else (some (0,1)))) = some (r1,r2) := h; clear h; replace H := Option.bind_eq_some_iff.mp H; obtain ⟨t286,A40,H⟩ := H; replace H : (if t286 = true then ((Z8.f a1).bind fun t287 => (if t287 = true then ((Z8.f a2).bind fun t288 => (ZB.j0 k l0 a1 a2 (!t288))) else (ZB.j0 k l0 a1 a2 true))) else (some (0,1))) = some (r1,r2) := H; have A4 := Zc.mk A40; clear A40
 by_cases c5 : t286 = true
 · subst c5
   have H1 : ((Z8.f a1).bind fun t287 => (if t287 = true then ((Z8.f a2).bind fun t288 => (ZB.j0 k l0 a1 a2 (!t288))) else (ZB.j0 k l0 a1 a2 true))) = some (r1,r2) := by rw [if_pos rfl] at H; exact H
   clear H; have H := H1; clear H1; have HC6 := Zc.mk H; clear H
   go_enter Try.func24,Try.ntmps24
   go_upto_region 3 with (first | ((with_reducible refine Z1 (f := 11) rfl ?_); refine ZQ (some 10) rfl rfl Try.func11 (by kernel_rfl) rfl #[.slice A0 l0.length c0] rfl (by (try simp only [List.map_toArray,List.map_cons,List.map_nil]); first | done | rfl | (simp only [List.length_drop,List.length_take]; rfl)) ?_; (with_reducible refine (Zh.calls k _ _ l0 true _ ?side1 ?side2 A4.out).mono ?_); (case side1 => repeat (first | exact HR0.out | (with_reducible refine Kd.ZA ?_ _) | (with_reducible refine Kd.Z9 ?_ _) | (with_reducible refine Kd.ZI ?_))); (case side2 => exact HC0.out); rintro e w7 ⟨rfl,hb⟩; refine ⟨_,rfl,?_⟩; have n0_ := Zc.mk (Z3 (by repeat (first | (with_reducible first | exact HB.out | apply Zd | apply Za | apply Zb) | exact HB.out)) hb); clear HB; have HB := n0_; clear n0_; (try clear hb); (try clear hb2); (try clear hk); (try clear hi)))
   (try simp only [Act.put,YD,YE,YF])
   go_cut [19] (fun v19 wc => ∃ (kq : Nat) (x19_5 : Bool),v19 = .bool x19_5 ∧ Zc (ZB.j0 kq l0 a1 a2 x19_5 = some (r1,r2)) ∧ Zc (kq ≤ k) ∧ Zc (Below w.heap.size w wc))
   case first =>
    have H := HC6.out; clear HC6; replace H := Option.bind_eq_some_iff.mp H; obtain ⟨t287,A80,H⟩ := H; replace H : (if t287 = true then ((Z8.f a2).bind fun t288 => (ZB.j0 k l0 a1 a2 (!t288))) else (ZB.j0 k l0 a1 a2 true)) = some (r1,r2) := H; have A8 := Zc.mk A80; clear A80
    by_cases c9 : t287 = true
    · subst c9
      have H1 : ((Z8.f a2).bind fun t288 => (ZB.j0 k l0 a1 a2 (!t288))) = some (r1,r2) := by rw [if_pos rfl] at H; exact H
      clear H; have H := H1; clear H1; replace H := Option.bind_eq_some_iff.mp H; obtain ⟨t288,A100,H⟩ := H; replace H : (ZB.j0 k l0 a1 a2 (!t288)) = some (r1,r2) := H; have A10 := Zc.mk A100; clear A100; have H' := Zc.mk H; clear H
      go_wp2_with (first | ((with_reducible refine Z1 (f := 50) rfl ?_); refine ZQ (some 13) rfl rfl Try.func50 (by kernel_rfl) rfl #[.int .i64 a1] rfl (by (try simp only [List.map_toArray,List.map_cons,List.map_nil]); first | done | rfl | (simp only [List.length_drop,List.length_take]; rfl)) ?_; (with_reducible refine (Z8.calls a1 true _ A8.out).mono ?_); rintro e w' ⟨rfl,⟨nd,rfl⟩⟩; refine ⟨_,rfl,?_⟩) | (go_at_call 50; (with_reducible refine (Z8.calls a2 t288 _ A10.out).mono ?_); rintro e w' ⟨rfl,⟨nd,rfl⟩⟩))
      go_meet
      case rel => exact ⟨_,(!t288),(by first | rfl | (simp; done) | (simp [*]; done)),H',⟨by first | omega | exact Nat.le_refl _⟩,⟨by repeat (first | (with_reducible first | exact HB.out | apply Zd | apply Za | apply Zb) | exact HB.out)⟩⟩
    · replace c9 := Bool.eq_false_iff.mpr c9
      subst c9
      have H1 : (ZB.j0 k l0 a1 a2 true) = some (r1,r2) := by rw [if_neg (show ¬ (false = true) by decide)] at H; exact H
      clear H; have H := H1; clear H1; have H' := Zc.mk H; clear H
      go_wp2_with (first | ((with_reducible refine Z1 (f := 50) rfl ?_); refine ZQ (some 13) rfl rfl Try.func50 (by kernel_rfl) rfl #[.int .i64 a1] rfl (by (try simp only [List.map_toArray,List.map_cons,List.map_nil]); first | done | rfl | (simp only [List.length_drop,List.length_take]; rfl)) ?_; (with_reducible refine (Z8.calls a1 false _ A8.out).mono ?_); rintro e w' ⟨rfl,⟨nd,rfl⟩⟩; refine ⟨_,rfl,?_⟩))
      go_meet
      case rel => exact ⟨_,(true),(by first | rfl | (simp; done) | (simp [*]; done)),H',⟨by first | omega | exact Nat.le_refl _⟩,⟨by repeat (first | (with_reducible first | exact HB.out | apply Zd | apply Za | apply Zb) | exact HB.out)⟩⟩
   case rest =>
    clear HC6
    (try clear c1); (try clear c2); (try clear p2); (try clear c5); (try clear c9)
    obtain ⟨kq,x19_5,rfl,HA,HJ5,HB⟩ := hcut
    cases kq with
    | zero => exact absurd HA.out (by simp [ZB.j0])
    | succ kj5 =>
     have H := HA.out; clear HA; simp only [ZB.j0] at H
     by_cases c11 : x19_5 = true
     · subst c11
       have H1 : (some (0,7)) = some (r1,r2) := by rw [if_pos rfl] at H; exact H
       clear H; have H := H1; clear H1; simp only [Option.some.injEq,Prod.mk.injEq] at H; obtain ⟨rfl,rfl⟩ := H
       go_wp2
       go_ret2
       exact ⟨by first | rfl | (simp [Zv,Zu] <;> rfl) | (simp [*,Zv,Zu] <;> rfl),by repeat (first | (with_reducible first | exact HB.out | apply Zd | apply Za | apply Zb) | exact HB.out)⟩
     · replace c11 := Bool.eq_false_iff.mpr c11
       subst c11
       have H1 : ((Z7.f kj5 l0 a1 a2).bind fun t289 => (if t289 > 1000000000 then (some (0,7)) else (some (t289,0)))) = some (r1,r2) := by rw [if_neg (show ¬ (false = true) by decide)] at H; exact H
       clear H; have H := H1; clear H1; replace H := Option.bind_eq_some_iff.mp H; obtain ⟨t289,A120,H⟩ := H; replace H : (if t289 > 1000000000 then (some (0,7)) else (some (t289,0))) = some (r1,r2) := H; have A12 := Zc.mk A120; clear A120
       by_cases c13 : t289 > 1000000000
       · rw [if_pos c13] at H
         have c13b0 : decide (1000000000 < t289) = true := decide_eq_true c13; clear c13; simp only [Option.some.injEq,Prod.mk.injEq] at H; obtain ⟨rfl,rfl⟩ := H
         go_wp2_with (first | ((with_reducible refine Z1 (f := 53) rfl ?_); refine ZQ (some 23) rfl rfl Try.func53 (by kernel_rfl) rfl #[.slice A0 l0.length c0,.int .i64 a1,.int .i64 a2] rfl (by (try simp only [List.map_toArray,List.map_cons,List.map_nil]); first | done | rfl | (simp only [List.length_drop,List.length_take]; rfl)) ?_; (with_reducible refine (Z7.calls kj5 _ _ l0 a1 a2 t289 _ ?side1 ?side2 A12.out).mono ?_); (case side1 => repeat (first | exact (Kd.ZO HR0.out HB.out) | (with_reducible refine Kd.ZA ?_ _) | (with_reducible refine Kd.Z9 ?_ _) | (with_reducible refine Kd.ZI ?_))); (case side2 => exact HC0.out); rintro e w' ⟨rfl,⟨nd,rfl⟩⟩; refine ⟨_,rfl,?_⟩))
         go_ret2
         exact ⟨by first | rfl | (simp [Zv,Zu] <;> rfl) | (simp [*,Zv,Zu] <;> rfl),by repeat (first | (with_reducible first | exact HB.out | apply Zd | apply Za | apply Zb) | exact HB.out)⟩
       · rw [if_neg c13] at H
         have c13b0 : decide (1000000000 < t289) = false := decide_eq_false c13; clear c13; simp only [Option.some.injEq,Prod.mk.injEq] at H; obtain ⟨rfl,rfl⟩ := H
         go_wp2_with (first | ((with_reducible refine Z1 (f := 53) rfl ?_); refine ZQ (some 23) rfl rfl Try.func53 (by kernel_rfl) rfl #[.slice A0 l0.length c0,.int .i64 a1,.int .i64 a2] rfl (by (try simp only [List.map_toArray,List.map_cons,List.map_nil]); first | done | rfl | (simp only [List.length_drop,List.length_take]; rfl)) ?_; (with_reducible refine (Z7.calls kj5 _ _ l0 a1 a2 t289 _ ?side1 ?side2 A12.out).mono ?_); (case side1 => repeat (first | exact (Kd.ZO HR0.out HB.out) | (with_reducible refine Kd.ZA ?_ _) | (with_reducible refine Kd.Z9 ?_ _) | (with_reducible refine Kd.ZI ?_))); (case side2 => exact HC0.out); rintro e w' ⟨rfl,⟨nd,rfl⟩⟩; refine ⟨_,rfl,?_⟩))
         go_ret2
         exact ⟨by first | rfl | (simp [Zv,Zu] <;> rfl) | (simp [*,Zv,Zu] <;> rfl),by repeat (first | (with_reducible first | exact HB.out | apply Zd | apply Za | apply Zb) | exact HB.out)⟩
 · replace c5 := Bool.eq_false_iff.mpr c5
   subst c5
   have H1 : (some (0,1)) = some (r1,r2) := by rw [if_neg (show ¬ (false = true) by decide)] at H; exact H
   clear H; have H := H1; clear H1; simp only [Option.some.injEq,Prod.mk.injEq] at H; obtain ⟨rfl,rfl⟩ := H
   go_enter Try.func24,Try.ntmps24
   go_wp2_with (first | ((with_reducible refine Z1 (f := 11) rfl ?_); refine ZQ (some 10) rfl rfl Try.func11 (by kernel_rfl) rfl #[.slice A0 l0.length c0] rfl (by (try simp only [List.map_toArray,List.map_cons,List.map_nil]); first | done | rfl | (simp only [List.length_drop,List.length_take]; rfl)) ?_; (with_reducible refine (Zh.calls k _ _ l0 false _ ?side1 ?side2 A4.out).mono ?_); (case side1 => repeat (first | exact HR0.out | (with_reducible refine Kd.ZA ?_ _) | (with_reducible refine Kd.Z9 ?_ _) | (with_reducible refine Kd.ZI ?_))); (case side2 => exact HC0.out); rintro e w14 ⟨rfl,hb⟩; refine ⟨_,rfl,?_⟩; have n0_ := Zc.mk (Z3 (by repeat (first | (with_reducible first | exact HB.out | apply Zd | apply Za | apply Zb) | exact HB.out)) hb); clear HB; have HB := n0_; clear n0_; (try clear hb); (try clear hb2); (try clear hk); (try clear hi)))
   go_ret2
   exact ⟨by first | rfl | (simp [Zv,Zu] <;> rfl) | (simp [*,Zv,Zu] <;> rfl),by repeat (first | (with_reducible first | exact HB.out | apply Zd | apply Za | apply Zb) | exact HB.out)⟩
end Go.Proofs.Ytomlfbmfdoallaa.PA

namespace Go.Proofs.Ytomlfbmfdoallaa.PA
open Go.RowKit Go.Proofs.YtomlfbmfdoallaaW.PrintWords Go.Proofs.YtomlfbmfdoallaaW.PrintLast Go.Proofs.YtomlfbmfdoallaaW.PrintMore
attribute [local go_sem] Xf Xg Xo Xn Xa ZZ Xh Xi
set_option linter.unusedVariables false
set_option linter.unusedSimpArgs false
def Xu.f (k : Nat) (l0 : List (S27)) (a1 : Int) (a2 : Int) : Option (Int × Int) := (ZP.f k l0 (([a1,a2] : List Int))).bind fun t293 => (if t293 = 0 then (if a2 < a1 then (some (0,7)) else ((Xw.f l0 a1 a2).bind fun t294 => (some (t294,0)))) else (some (0,t293)))
theorem Xu.mono : ∀ a0 a1 a2 k,LeO (Xu.f k a0 a1 a2) (Xu.f (k + 1) a0 a1 a2) := by
 intro a0 a1 a2 k; unfold Xu.f
 repeat' first
  | (with_reducible exact ZP.mono _ _ _)
  | (with_reducible exact LeO.refl _)
  | (with_reducible exact LeO.none _)
  | (with_reducible refine LeO.ite ?_ ?_)
  | (with_reducible refine LeO.bind ?_ (fun _ => ?_))
  | exact ZP.mono _ _ _
  | exact LeO.none _
  | refine LeO.ite ?_ ?_
  | refine LeO.bind ?_ (fun _ => ?_)
set_option maxHeartbeats 8000000 in
set_option maxRecDepth 100000 in
theorem Xu.calls (k : Nat) (A0 : Option Addr) (c0 : Nat) (l0 : List (S27)) (a1 : Int) (a2 : Int) (r1 : Int) (r2 : Int) (w : World) (hr0 : Kd.C k27 w A0 l0.length l0) (hc0 : l0.length ≤ c0) (h : Xu.f k l0 a1 a2 = some (r1,r2)) :
 Calls Try.prog 26 #[.slice A0 l0.length c0,.int .i64 a1,.int .i64 a2] w fun e w' => e = .returned (.tuple #[.int .i64 r1,.int .i64 r2]) ∧ Below w.heap.size w w' := by
 have HR0 := Zc.mk hr0; have HC0 := Zc.mk hc0; clear hr0 hc0; have HB := Zc.mk (Below.refl w.heap.size w); have H : ((ZP.f k l0 (([a1,a2] : List Int))).bind fun t293 => (if t293 = 0 then (if a2 < a1 then (some (0,7)) else ((Xw.f l0 a1 a2).bind fun t294 => (some (t294,0)))) else (some (0,t293)))) = some (r1,r2) := h; clear h
 obtain ⟨y290,hy290⟩ : ∃ y_ : List Int,y_ = (([a1,a2] : List Int)) := ⟨_,rfl⟩
 replace H : ((ZP.f k l0 y290).bind fun t293 => (if t293 = 0 then (if a2 < a1 then (some (0,7)) else ((Xw.f l0 a1 a2).bind fun t294 => (some (t294,0)))) else (some (0,t293)))) = some (r1,r2) := by first | (rw [hy290]; with_reducible exact H) | (have H2_ := (Option.bind_some _ _).symm.trans H; rw [hy290]; with_reducible exact H2_) | (have H2_ := (Option.bind_some _ _).symm.trans H; with_reducible exact H2_) | with_reducible exact H | (rw [hy290]; exact H) | exact H
 have Ny290 := Zc.mk hy290; clear hy290; replace H := Option.bind_eq_some_iff.mp H; obtain ⟨t293,A40,H⟩ := H; replace H : (if t293 = 0 then (if a2 < a1 then (some (0,7)) else ((Xw.f l0 a1 a2).bind fun t294 => (some (t294,0)))) else (some (0,t293))) = some (r1,r2) := H; have A4 := Zc.mk A40; clear A40
 by_cases c5 : t293 = 0
 · rw [if_pos c5] at H
   have c5b0 : (t293 == 0) = true := beq_iff_eq.mpr c5; have c5b1 : (t293 != 0) = false := bne_eq_false_iff_eq.mpr c5; clear c5
   by_cases c6 : a2 < a1
   · rw [if_pos c6] at H
     have c6b0 : decide (a2 < a1) = true := decide_eq_true c6; clear c6; simp only [Option.some.injEq,Prod.mk.injEq] at H; obtain ⟨rfl,rfl⟩ := H
     go_enter Try.func26,Try.ntmps26
     go_wp2_with (first | ((with_reducible refine Xr (N := 12) rfl ?_); refine Kd.R_lit (Kd.int .i64) _ 3 ?hg (N := 12) ?hd (xs := ([a1,a2] : List Int)) (inner := [.int .i64 a1,.int .i64 a2]) (ok := fun _ => True) (okp := fun _ => True) ?hr ?hp (fun _ hk => hk) trivial (Below.refl _ _) (Nat.le_refl _) (by simp) ?_; (case hd => rfl); (case hg => rfl); (case hr => first | (go_simp; done) | (go_simp; rfl)); (case hp => exact (Reps.one (show Kd.M (Kd.int .i64) _ _ _ a1 [.int .i64 a1] from rfl) (Reps.one (show Kd.M (Kd.int .i64) _ _ _ a2 [.int .i64 a2] from rfl) (Reps.none _ _)))); intro v291 w7 ho8 hb hg_ hnew_; clear hg_ hnew_; (first | rw [← Ny290.out] at ho8 | (simp only [Int.reduceToNat] at ho8; rw [← Ny290.out] at ho8)); have n0_ := Zc.mk (Kd.Xs ho8 (ZH (by repeat (first | (with_reducible first | exact HB.out | apply Zd | apply Za | apply Zb) | exact HB.out)))); have n1_ := Zc.mk (Z3 (by repeat (first | (with_reducible first | exact HB.out | apply Zd | apply Za | apply Zb) | exact HB.out)) hb); clear HB; have HO292 := n0_; have HB := n1_; clear n0_ n1_; clear hb ho8; obtain ⟨Ao9,co9,eo9⟩ := Kd.Xd HO292.out; subst eo9) | ((with_reducible refine Z1 (f := 40) rfl ?_); refine ZQ (some 13) rfl rfl Try.func40 (by kernel_rfl) rfl #[.slice A0 l0.length c0,.slice Ao9 y290.length co9] rfl (by (try simp only [List.map_toArray,List.map_cons,List.map_nil]); first | done | rfl | (simp only [List.length_drop,List.length_take]; rfl)) ?_; (with_reducible refine (ZP.calls k _ _ l0 _ _ y290 t293 _ ?side1 ?side2 ?side3 ?side4 A4.out).mono ?_); (case side1 => repeat (first | exact (Kd.ZO HR0.out HB.out) | (with_reducible refine Kd.ZA ?_ _) | (with_reducible refine Kd.Z9 ?_ _) | (with_reducible refine Kd.ZI ?_))); (case side2 => exact HC0.out); (case side3 => repeat (first | exact (Kd.ZL HO292.out).2.2 | (with_reducible refine Kd.ZA ?_ _) | (with_reducible refine Kd.Z9 ?_ _) | (with_reducible refine Kd.ZI ?_))); (case side4 => exact (Kd.ZL HO292.out).2.1); rintro e w10 ⟨rfl,hb⟩; refine ⟨_,rfl,?_⟩; have n0_ := Zc.mk (Kd.Xl (by (with_reducible repeat (first | apply Kd.Zl | apply Kd.Zk | apply Kd.Zs)); exact HO292.out) hb); have n1_ := Zc.mk (Z3 (by repeat (first | (with_reducible first | exact HB.out | apply Zd | apply Za | apply Zb) | exact HB.out)) hb); clear HO292; clear HB; have HO292 := n0_; have HB := n1_; clear n0_ n1_; (try clear hb); (try clear hb2); (try clear hk); (try clear hi)))
     go_ret2
     exact ⟨by first | rfl | (simp [Zv,Zu] <;> rfl) | (simp [*,Zv,Zu] <;> rfl),by repeat (first | (with_reducible first | exact HB.out | apply Zd | apply Za | apply Zb) | exact HB.out)⟩
   · rw [if_neg c6] at H
     have c6b0 : decide (a2 < a1) = false := decide_eq_false c6; clear c6; replace H := Option.bind_eq_some_iff.mp H; obtain ⟨t294,A110,H⟩ := H; replace H : (some (t294,0)) = some (r1,r2) := H; have A11 := Zc.mk A110; clear A110; simp only [Option.some.injEq,Prod.mk.injEq] at H; obtain ⟨rfl,rfl⟩ := H
     go_enter Try.func26,Try.ntmps26
     go_wp2_with (first | ((with_reducible refine Xr (N := 12) rfl ?_); refine Kd.R_lit (Kd.int .i64) _ 3 ?hg (N := 12) ?hd (xs := ([a1,a2] : List Int)) (inner := [.int .i64 a1,.int .i64 a2]) (ok := fun _ => True) (okp := fun _ => True) ?hr ?hp (fun _ hk => hk) trivial (Below.refl _ _) (Nat.le_refl _) (by simp) ?_; (case hd => rfl); (case hg => rfl); (case hr => first | (go_simp; done) | (go_simp; rfl)); (case hp => exact (Reps.one (show Kd.M (Kd.int .i64) _ _ _ a1 [.int .i64 a1] from rfl) (Reps.one (show Kd.M (Kd.int .i64) _ _ _ a2 [.int .i64 a2] from rfl) (Reps.none _ _)))); intro v291 w12 ho13 hb hg_ hnew_; clear hg_ hnew_; (first | rw [← Ny290.out] at ho13 | (simp only [Int.reduceToNat] at ho13; rw [← Ny290.out] at ho13)); have n0_ := Zc.mk (Kd.Xs ho13 (ZH (by repeat (first | (with_reducible first | exact HB.out | apply Zd | apply Za | apply Zb) | exact HB.out)))); have n1_ := Zc.mk (Z3 (by repeat (first | (with_reducible first | exact HB.out | apply Zd | apply Za | apply Zb) | exact HB.out)) hb); clear HB; have HO292 := n0_; have HB := n1_; clear n0_ n1_; clear hb ho13; obtain ⟨Ao14,co14,eo14⟩ := Kd.Xd HO292.out; subst eo14) | ((with_reducible refine Z1 (f := 40) rfl ?_); refine ZQ (some 13) rfl rfl Try.func40 (by kernel_rfl) rfl #[.slice A0 l0.length c0,.slice Ao14 y290.length co14] rfl (by (try simp only [List.map_toArray,List.map_cons,List.map_nil]); first | done | rfl | (simp only [List.length_drop,List.length_take]; rfl)) ?_; (with_reducible refine (ZP.calls k _ _ l0 _ _ y290 t293 _ ?side1 ?side2 ?side3 ?side4 A4.out).mono ?_); (case side1 => repeat (first | exact (Kd.ZO HR0.out HB.out) | (with_reducible refine Kd.ZA ?_ _) | (with_reducible refine Kd.Z9 ?_ _) | (with_reducible refine Kd.ZI ?_))); (case side2 => exact HC0.out); (case side3 => repeat (first | exact (Kd.ZL HO292.out).2.2 | (with_reducible refine Kd.ZA ?_ _) | (with_reducible refine Kd.Z9 ?_ _) | (with_reducible refine Kd.ZI ?_))); (case side4 => exact (Kd.ZL HO292.out).2.1); rintro e w15 ⟨rfl,hb⟩; refine ⟨_,rfl,?_⟩; have n0_ := Zc.mk (Kd.Xl (by (with_reducible repeat (first | apply Kd.Zl | apply Kd.Zk | apply Kd.Zs)); exact HO292.out) hb); have n1_ := Zc.mk (Z3 (by repeat (first | (with_reducible first | exact HB.out | apply Zd | apply Za | apply Zb) | exact HB.out)) hb); clear HO292; clear HB; have HO292 := n0_; have HB := n1_; clear n0_ n1_; (try clear hb); (try clear hb2); (try clear hk); (try clear hi)) | ((with_reducible refine Z1 (f := 54) rfl ?_); refine ZQ (some 23) rfl rfl Try.func54 (by kernel_rfl) rfl #[.slice A0 l0.length c0,.int .i64 a1,.int .i64 a2] rfl (by (try simp only [List.map_toArray,List.map_cons,List.map_nil]); first | done | rfl | (simp only [List.length_drop,List.length_take]; rfl)) ?_; (with_reducible refine (Xw.calls _ _ l0 a1 a2 t294 _ ?side1 ?side2 A11.out).mono ?_); (case side1 => repeat (first | exact (Kd.ZO HR0.out HB.out) | (with_reducible refine Kd.ZA ?_ _) | (with_reducible refine Kd.Z9 ?_ _) | (with_reducible refine Kd.ZI ?_))); (case side2 => exact HC0.out); rintro e w16 ⟨rfl,hb⟩; refine ⟨_,rfl,?_⟩; have n0_ := Zc.mk (Kd.Xl (by (with_reducible repeat (first | apply Kd.Zl | apply Kd.Zk | apply Kd.Zs)); exact HO292.out) hb); have n1_ := Zc.mk (Z3 (by repeat (first | (with_reducible first | exact HB.out | apply Zd | apply Za | apply Zb) | exact HB.out)) hb); clear HO292; clear HB; have HO292 := n0_; have HB := n1_; clear n0_ n1_; (try clear hb); (try clear hb2); (try clear hk); (try clear hi)))
     go_ret2
     exact ⟨by first | rfl | (simp [Zv,Zu] <;> rfl) | (simp [*,Zv,Zu] <;> rfl),by repeat (first | (with_reducible first | exact HB.out | apply Zd | apply Za | apply Zb) | exact HB.out)⟩
 · rw [if_neg c5] at H
   have c5b0 : (t293 == 0) = false := beq_eq_false_iff_ne.mpr c5; have c5b1 : (t293 != 0) = true := bne_iff_ne.mpr c5; simp only [Option.some.injEq,Prod.mk.injEq] at H; obtain ⟨rfl,rfl⟩ := H
   go_enter Try.func26,Try.ntmps26
   go_wp2_with (first | ((with_reducible refine Xr (N := 12) rfl ?_); refine Kd.R_lit (Kd.int .i64) _ 3 ?hg (N := 12) ?hd (xs := ([a1,a2] : List Int)) (inner := [.int .i64 a1,.int .i64 a2]) (ok := fun _ => True) (okp := fun _ => True) ?hr ?hp (fun _ hk => hk) trivial (Below.refl _ _) (Nat.le_refl _) (by simp) ?_; (case hd => rfl); (case hg => rfl); (case hr => first | (go_simp; done) | (go_simp; rfl)); (case hp => exact (Reps.one (show Kd.M (Kd.int .i64) _ _ _ a1 [.int .i64 a1] from rfl) (Reps.one (show Kd.M (Kd.int .i64) _ _ _ a2 [.int .i64 a2] from rfl) (Reps.none _ _)))); intro v291 w17 ho18 hb hg_ hnew_; clear hg_ hnew_; (first | rw [← Ny290.out] at ho18 | (simp only [Int.reduceToNat] at ho18; rw [← Ny290.out] at ho18)); have n0_ := Zc.mk (Kd.Xs ho18 (ZH (by repeat (first | (with_reducible first | exact HB.out | apply Zd | apply Za | apply Zb) | exact HB.out)))); have n1_ := Zc.mk (Z3 (by repeat (first | (with_reducible first | exact HB.out | apply Zd | apply Za | apply Zb) | exact HB.out)) hb); clear HB; have HO292 := n0_; have HB := n1_; clear n0_ n1_; clear hb ho18; obtain ⟨Ao19,co19,eo19⟩ := Kd.Xd HO292.out; subst eo19) | ((with_reducible refine Z1 (f := 40) rfl ?_); refine ZQ (some 13) rfl rfl Try.func40 (by kernel_rfl) rfl #[.slice A0 l0.length c0,.slice Ao19 y290.length co19] rfl (by (try simp only [List.map_toArray,List.map_cons,List.map_nil]); first | done | rfl | (simp only [List.length_drop,List.length_take]; rfl)) ?_; (with_reducible refine (ZP.calls k _ _ l0 _ _ y290 t293 _ ?side1 ?side2 ?side3 ?side4 A4.out).mono ?_); (case side1 => repeat (first | exact (Kd.ZO HR0.out HB.out) | (with_reducible refine Kd.ZA ?_ _) | (with_reducible refine Kd.Z9 ?_ _) | (with_reducible refine Kd.ZI ?_))); (case side2 => exact HC0.out); (case side3 => repeat (first | exact (Kd.ZL HO292.out).2.2 | (with_reducible refine Kd.ZA ?_ _) | (with_reducible refine Kd.Z9 ?_ _) | (with_reducible refine Kd.ZI ?_))); (case side4 => exact (Kd.ZL HO292.out).2.1); rintro e w20 ⟨rfl,hb⟩; refine ⟨_,rfl,?_⟩; have n0_ := Zc.mk (Kd.Xl (by (with_reducible repeat (first | apply Kd.Zl | apply Kd.Zk | apply Kd.Zs)); exact HO292.out) hb); have n1_ := Zc.mk (Z3 (by repeat (first | (with_reducible first | exact HB.out | apply Zd | apply Za | apply Zb) | exact HB.out)) hb); clear HO292; clear HB; have HO292 := n0_; have HB := n1_; clear n0_ n1_; (try clear hb); (try clear hb2); (try clear hk); (try clear hi)))
   go_ret2
   exact ⟨by first | rfl | (simp [Zv,Zu] <;> rfl) | (simp [*,Zv,Zu] <;> rfl),by repeat (first | (with_reducible first | exact HB.out | apply Zd | apply Za | apply Zb) | exact HB.out)⟩
end Go.Proofs.Ytomlfbmfdoallaa.PA

namespace Go.Proofs.Ytomlfbmfdoallaa.PA
open Go.RowKit Go.Proofs.YtomlfbmfdoallaaW.PrintWords Go.Proofs.YtomlfbmfdoallaaW.PrintLast Go.Proofs.YtomlfbmfdoallaaW.PrintMore
attribute [local go_sem] Xf Xg Xo Xn Xa ZZ Xh Xi
set_option linter.unusedVariables false
set_option linter.unusedSimpArgs false
def ZY.f (k : Nat) (l0 : List (S27)) (a1 : Int) (a2 : Int) : Option (Int × Int) := (Zh.f k l0).bind fun t296 => (if t296 = true then ((Z8.f a1).bind fun t297 => (if t297 = true then (if a2 < a1 then (some (0,7)) else (if a2 > 1000000000 then (some (0,7)) else ((Z5.f k l0 a1 a2).bind fun t298 => (some (t298,0))))) else (some (0,7)))) else (some (0,1)))
theorem ZY.mono : ∀ a0 a1 a2 k,LeO (ZY.f k a0 a1 a2) (ZY.f (k + 1) a0 a1 a2) := by
 intro a0 a1 a2 k; unfold ZY.f
 repeat' first
  | (with_reducible exact Zh.mono _ _)
  | (with_reducible exact Z5.mono _ _ _ _)
  | (with_reducible exact LeO.refl _)
  | (with_reducible exact LeO.none _)
  | (with_reducible refine LeO.ite ?_ ?_)
  | (with_reducible refine LeO.bind ?_ (fun _ => ?_))
  | exact Zh.mono _ _
  | exact Z5.mono _ _ _ _
  | exact LeO.none _
  | refine LeO.ite ?_ ?_
  | refine LeO.bind ?_ (fun _ => ?_)
set_option maxHeartbeats 8000000 in
set_option maxRecDepth 100000 in
theorem ZY.calls (k : Nat) (A0 : Option Addr) (c0 : Nat) (l0 : List (S27)) (a1 : Int) (a2 : Int) (r1 : Int) (r2 : Int) (w : World) (hr0 : Kd.C k27 w A0 l0.length l0) (hc0 : l0.length ≤ c0) (h : ZY.f k l0 a1 a2 = some (r1,r2)) :
 Calls Try.prog 27 #[.slice A0 l0.length c0,.int .i64 a1,.int .i64 a2] w fun e w' => e = .returned (.tuple #[.int .i64 r1,.int .i64 r2]) ∧ Below w.heap.size w w' := by
 have HR0 := Zc.mk hr0; have HC0 := Zc.mk hc0; clear hr0 hc0; have HB := Zc.mk (Below.refl w.heap.size w); have H : ((Zh.f k l0).bind fun t296 => (if t296 = true then ((Z8.f a1).bind fun t297 => (if t297 = true then (if a2 < a1 then (some (0,7)) else (if a2 > 1000000000 then (some (0,7)) else ((Z5.f k l0 a1 a2).bind fun t298 => (some (t298,0))))) else (some (0,7)))) else (some (0,1)))) = some (r1,r2) := h; clear h; replace H := Option.bind_eq_some_iff.mp H; obtain ⟨t296,A40,H⟩ := H; replace H : (if t296 = true then ((Z8.f a1).bind fun t297 => (if t297 = true then (if a2 < a1 then (some (0,7)) else (if a2 > 1000000000 then (some (0,7)) else ((Z5.f k l0 a1 a2).bind fun t298 => (some (t298,0))))) else (some (0,7)))) else (some (0,1))) = some (r1,r2) := H; have A4 := Zc.mk A40; clear A40
 by_cases c5 : t296 = true
 · subst c5
   have H1 : ((Z8.f a1).bind fun t297 => (if t297 = true then (if a2 < a1 then (some (0,7)) else (if a2 > 1000000000 then (some (0,7)) else ((Z5.f k l0 a1 a2).bind fun t298 => (some (t298,0))))) else (some (0,7)))) = some (r1,r2) := by rw [if_pos rfl] at H; exact H
   clear H; have H := H1; clear H1; replace H := Option.bind_eq_some_iff.mp H; obtain ⟨t297,A60,H⟩ := H; replace H : (if t297 = true then (if a2 < a1 then (some (0,7)) else (if a2 > 1000000000 then (some (0,7)) else ((Z5.f k l0 a1 a2).bind fun t298 => (some (t298,0))))) else (some (0,7))) = some (r1,r2) := H; have A6 := Zc.mk A60; clear A60
   by_cases c7 : t297 = true
   · subst c7
     have H1 : (if a2 < a1 then (some (0,7)) else (if a2 > 1000000000 then (some (0,7)) else ((Z5.f k l0 a1 a2).bind fun t298 => (some (t298,0))))) = some (r1,r2) := by rw [if_pos rfl] at H; exact H
     clear H; have H := H1; clear H1
     by_cases c8 : a2 < a1
     · rw [if_pos c8] at H
       have c8b0 : decide (a2 < a1) = true := decide_eq_true c8; clear c8; simp only [Option.some.injEq,Prod.mk.injEq] at H; obtain ⟨rfl,rfl⟩ := H
       go_enter Try.func27,Try.ntmps27
       go_wp2_with (first | ((with_reducible refine Z1 (f := 11) rfl ?_); refine ZQ (some 9) rfl rfl Try.func11 (by kernel_rfl) rfl #[.slice A0 l0.length c0] rfl (by (try simp only [List.map_toArray,List.map_cons,List.map_nil]); first | done | rfl | (simp only [List.length_drop,List.length_take]; rfl)) ?_; (with_reducible refine (Zh.calls k _ _ l0 true _ ?side1 ?side2 A4.out).mono ?_); (case side1 => repeat (first | exact HR0.out | (with_reducible refine Kd.ZA ?_ _) | (with_reducible refine Kd.Z9 ?_ _) | (with_reducible refine Kd.ZI ?_))); (case side2 => exact HC0.out); rintro e w9 ⟨rfl,hb⟩; refine ⟨_,rfl,?_⟩; have n0_ := Zc.mk (Z3 (by repeat (first | (with_reducible first | exact HB.out | apply Zd | apply Za | apply Zb) | exact HB.out)) hb); clear HB; have HB := n0_; clear n0_; (try clear hb); (try clear hb2); (try clear hk); (try clear hi)) | ((with_reducible refine Z1 (f := 50) rfl ?_); refine ZQ (some 12) rfl rfl Try.func50 (by kernel_rfl) rfl #[.int .i64 a1] rfl (by (try simp only [List.map_toArray,List.map_cons,List.map_nil]); first | done | rfl | (simp only [List.length_drop,List.length_take]; rfl)) ?_; (with_reducible refine (Z8.calls a1 true _ A6.out).mono ?_); rintro e w' ⟨rfl,⟨nd,rfl⟩⟩; refine ⟨_,rfl,?_⟩))
       go_ret2
       exact ⟨by first | rfl | (simp [Zv,Zu] <;> rfl) | (simp [*,Zv,Zu] <;> rfl),by repeat (first | (with_reducible first | exact HB.out | apply Zd | apply Za | apply Zb) | exact HB.out)⟩
     · rw [if_neg c8] at H
       have c8b0 : decide (a2 < a1) = false := decide_eq_false c8; clear c8
       by_cases c10 : a2 > 1000000000
       · rw [if_pos c10] at H
         have c10b0 : decide (1000000000 < a2) = true := decide_eq_true c10; clear c10; simp only [Option.some.injEq,Prod.mk.injEq] at H; obtain ⟨rfl,rfl⟩ := H
         go_enter Try.func27,Try.ntmps27
         go_wp2_with (first | ((with_reducible refine Z1 (f := 11) rfl ?_); refine ZQ (some 9) rfl rfl Try.func11 (by kernel_rfl) rfl #[.slice A0 l0.length c0] rfl (by (try simp only [List.map_toArray,List.map_cons,List.map_nil]); first | done | rfl | (simp only [List.length_drop,List.length_take]; rfl)) ?_; (with_reducible refine (Zh.calls k _ _ l0 true _ ?side1 ?side2 A4.out).mono ?_); (case side1 => repeat (first | exact HR0.out | (with_reducible refine Kd.ZA ?_ _) | (with_reducible refine Kd.Z9 ?_ _) | (with_reducible refine Kd.ZI ?_))); (case side2 => exact HC0.out); rintro e w11 ⟨rfl,hb⟩; refine ⟨_,rfl,?_⟩; have n0_ := Zc.mk (Z3 (by repeat (first | (with_reducible first | exact HB.out | apply Zd | apply Za | apply Zb) | exact HB.out)) hb); clear HB; have HB := n0_; clear n0_; (try clear hb); (try clear hb2); (try clear hk); (try clear hi)) | ((with_reducible refine Z1 (f := 50) rfl ?_); refine ZQ (some 12) rfl rfl Try.func50 (by kernel_rfl) rfl #[.int .i64 a1] rfl (by (try simp only [List.map_toArray,List.map_cons,List.map_nil]); first | done | rfl | (simp only [List.length_drop,List.length_take]; rfl)) ?_; (with_reducible refine (Z8.calls a1 true _ A6.out).mono ?_); rintro e w' ⟨rfl,⟨nd,rfl⟩⟩; refine ⟨_,rfl,?_⟩))
         go_ret2
         exact ⟨by first | rfl | (simp [Zv,Zu] <;> rfl) | (simp [*,Zv,Zu] <;> rfl),by repeat (first | (with_reducible first | exact HB.out | apply Zd | apply Za | apply Zb) | exact HB.out)⟩
       · rw [if_neg c10] at H
         have c10b0 : decide (1000000000 < a2) = false := decide_eq_false c10; clear c10; replace H := Option.bind_eq_some_iff.mp H; obtain ⟨t298,A120,H⟩ := H; replace H : (some (t298,0)) = some (r1,r2) := H; have A12 := Zc.mk A120; clear A120; simp only [Option.some.injEq,Prod.mk.injEq] at H; obtain ⟨rfl,rfl⟩ := H
         go_enter Try.func27,Try.ntmps27
         go_wp2_with (first | ((with_reducible refine Z1 (f := 11) rfl ?_); refine ZQ (some 9) rfl rfl Try.func11 (by kernel_rfl) rfl #[.slice A0 l0.length c0] rfl (by (try simp only [List.map_toArray,List.map_cons,List.map_nil]); first | done | rfl | (simp only [List.length_drop,List.length_take]; rfl)) ?_; (with_reducible refine (Zh.calls k _ _ l0 true _ ?side1 ?side2 A4.out).mono ?_); (case side1 => repeat (first | exact HR0.out | (with_reducible refine Kd.ZA ?_ _) | (with_reducible refine Kd.Z9 ?_ _) | (with_reducible refine Kd.ZI ?_))); (case side2 => exact HC0.out); rintro e w13 ⟨rfl,hb⟩; refine ⟨_,rfl,?_⟩; have n0_ := Zc.mk (Z3 (by repeat (first | (with_reducible first | exact HB.out | apply Zd | apply Za | apply Zb) | exact HB.out)) hb); clear HB; have HB := n0_; clear n0_; (try clear hb); (try clear hb2); (try clear hk); (try clear hi)) | ((with_reducible refine Z1 (f := 50) rfl ?_); refine ZQ (some 12) rfl rfl Try.func50 (by kernel_rfl) rfl #[.int .i64 a1] rfl (by (try simp only [List.map_toArray,List.map_cons,List.map_nil]); first | done | rfl | (simp only [List.length_drop,List.length_take]; rfl)) ?_; (with_reducible refine (Z8.calls a1 true _ A6.out).mono ?_); rintro e w' ⟨rfl,⟨nd,rfl⟩⟩; refine ⟨_,rfl,?_⟩) | ((with_reducible refine Z1 (f := 55) rfl ?_); refine ZQ (some 26) rfl rfl Try.func55 (by kernel_rfl) rfl #[.slice A0 l0.length c0,.int .i64 a1,.int .i64 a2] rfl (by (try simp only [List.map_toArray,List.map_cons,List.map_nil]); first | done | rfl | (simp only [List.length_drop,List.length_take]; rfl)) ?_; (with_reducible refine (Z5.calls k _ _ l0 a1 a2 t298 _ ?side1 ?side2 A12.out).mono ?_); (case side1 => repeat (first | exact (Kd.ZO HR0.out (by repeat (first | (with_reducible first | exact HB.out | apply Zd | apply Za | apply Zb) | exact HB.out))) | (with_reducible refine Kd.ZA ?_ _) | (with_reducible refine Kd.Z9 ?_ _) | (with_reducible refine Kd.ZI ?_))); (case side2 => exact HC0.out); rintro e w' ⟨rfl,⟨nd,rfl⟩⟩; refine ⟨_,rfl,?_⟩))
         go_ret2
         exact ⟨by first | rfl | (simp [Zv,Zu] <;> rfl) | (simp [*,Zv,Zu] <;> rfl),by repeat (first | (with_reducible first | exact HB.out | apply Zd | apply Za | apply Zb) | exact HB.out)⟩
   · replace c7 := Bool.eq_false_iff.mpr c7
     subst c7
     have H1 : (some (0,7)) = some (r1,r2) := by rw [if_neg (show ¬ (false = true) by decide)] at H; exact H
     clear H; have H := H1; clear H1; simp only [Option.some.injEq,Prod.mk.injEq] at H; obtain ⟨rfl,rfl⟩ := H
     go_enter Try.func27,Try.ntmps27
     go_wp2_with (first | ((with_reducible refine Z1 (f := 11) rfl ?_); refine ZQ (some 9) rfl rfl Try.func11 (by kernel_rfl) rfl #[.slice A0 l0.length c0] rfl (by (try simp only [List.map_toArray,List.map_cons,List.map_nil]); first | done | rfl | (simp only [List.length_drop,List.length_take]; rfl)) ?_; (with_reducible refine (Zh.calls k _ _ l0 true _ ?side1 ?side2 A4.out).mono ?_); (case side1 => repeat (first | exact HR0.out | (with_reducible refine Kd.ZA ?_ _) | (with_reducible refine Kd.Z9 ?_ _) | (with_reducible refine Kd.ZI ?_))); (case side2 => exact HC0.out); rintro e w14 ⟨rfl,hb⟩; refine ⟨_,rfl,?_⟩; have n0_ := Zc.mk (Z3 (by repeat (first | (with_reducible first | exact HB.out | apply Zd | apply Za | apply Zb) | exact HB.out)) hb); clear HB; have HB := n0_; clear n0_; (try clear hb); (try clear hb2); (try clear hk); (try clear hi)) | ((with_reducible refine Z1 (f := 50) rfl ?_); refine ZQ (some 12) rfl rfl Try.func50 (by kernel_rfl) rfl #[.int .i64 a1] rfl (by (try simp only [List.map_toArray,List.map_cons,List.map_nil]); first | done | rfl | (simp only [List.length_drop,List.length_take]; rfl)) ?_; (with_reducible refine (Z8.calls a1 false _ A6.out).mono ?_); rintro e w' ⟨rfl,⟨nd,rfl⟩⟩; refine ⟨_,rfl,?_⟩))
     go_ret2
     exact ⟨by first | rfl | (simp [Zv,Zu] <;> rfl) | (simp [*,Zv,Zu] <;> rfl),by repeat (first | (with_reducible first | exact HB.out | apply Zd | apply Za | apply Zb) | exact HB.out)⟩
 · replace c5 := Bool.eq_false_iff.mpr c5
   subst c5
   have H1 : (some (0,1)) = some (r1,r2) := by rw [if_neg (show ¬ (false = true) by decide)] at H; exact H
   clear H; have H := H1; clear H1; simp only [Option.some.injEq,Prod.mk.injEq] at H; obtain ⟨rfl,rfl⟩ := H
   go_enter Try.func27,Try.ntmps27
   go_wp2_with (first | ((with_reducible refine Z1 (f := 11) rfl ?_); refine ZQ (some 9) rfl rfl Try.func11 (by kernel_rfl) rfl #[.slice A0 l0.length c0] rfl (by (try simp only [List.map_toArray,List.map_cons,List.map_nil]); first | done | rfl | (simp only [List.length_drop,List.length_take]; rfl)) ?_; (with_reducible refine (Zh.calls k _ _ l0 false _ ?side1 ?side2 A4.out).mono ?_); (case side1 => repeat (first | exact HR0.out | (with_reducible refine Kd.ZA ?_ _) | (with_reducible refine Kd.Z9 ?_ _) | (with_reducible refine Kd.ZI ?_))); (case side2 => exact HC0.out); rintro e w15 ⟨rfl,hb⟩; refine ⟨_,rfl,?_⟩; have n0_ := Zc.mk (Z3 (by repeat (first | (with_reducible first | exact HB.out | apply Zd | apply Za | apply Zb) | exact HB.out)) hb); clear HB; have HB := n0_; clear n0_; (try clear hb); (try clear hb2); (try clear hk); (try clear hi)))
   go_ret2
   exact ⟨by first | rfl | (simp [Zv,Zu] <;> rfl) | (simp [*,Zv,Zu] <;> rfl),by repeat (first | (with_reducible first | exact HB.out | apply Zd | apply Za | apply Zb) | exact HB.out)⟩
end Go.Proofs.Ytomlfbmfdoallaa.PA

namespace Go.Proofs.Ytomlfbmfdoallaa.PA
open Go.RowKit Go.Proofs.YtomlfbmfdoallaaW.PrintWords Go.Proofs.YtomlfbmfdoallaaW.PrintLast Go.Proofs.YtomlfbmfdoallaaW.PrintMore
attribute [local go_sem] Xf Xg Xo Xn Xa ZZ Xh Xi
set_option linter.unusedVariables false
set_option linter.unusedSimpArgs false
mutual
def Zj.j0 : Nat → List (S27) → Int → Int → Int → Int → Int → Bool → Option (Bool)
 | 0,_,_,_,_,_,_,_ => none
 | k + 1,x0,x1,x2,x3,x9,x10,x49 => if x49 = true then (some false) else (if x10 = 0 then ((Xu.f k x0 x1 x9).bind fun bt318 => (if bt318.2 = 0 then (Zj.j1 k x0 x1 x2 x3 x9 bt318.1 (decide (bt318.1 < x2))) else (Zj.j1 k x0 x1 x2 x3 x9 bt318.1 true))) else (Zj.j2 k x0 x1 x2 x3))
def Zj.j2 : Nat → List (S27) → Int → Int → Int → Option (Bool)
 | 0,_,_,_,_ => none
 | k + 1,x0,x1,x2,x3 => (Xu.f k x0 x1 x3).bind fun bt322 => ((ZY.f k x0 x1 x3).bind fun bt324 => (if bt322.1 = bt324.1 then (Zj.j3 k x0 x2 (bt322.2 != bt324.2)) else (Zj.j3 k x0 x2 true)))
def Zj.j3 : Nat → List (S27) → Int → Bool → Option (Bool)
 | 0,_,_,_ => none
 | k + 1,x0,x2,x101 => if x101 = true then (some false) else ((Xp.f k x0 x2).bind fun bt326 => ((ZS.f k x0 x2).bind fun bt328 => (if bt326.1 = bt328.1 then (some (bt326.2 == bt328.2)) else (some false))))
def Zj.j1 : Nat → List (S27) → Int → Int → Int → Int → Int → Bool → Option (Bool)
 | 0,_,_,_,_,_,_,_ => none
 | k + 1,x0,x1,x2,x3,x9,x13,x65 => if x65 = true then (some false) else ((ZX.f k x0 x1 x13).bind fun bt320 => (if bt320.2 = 0 then (if bt320.1 = x9 then (Zj.j2 k x0 x1 x2 x3) else (some false)) else (some false)))
end
def Zj.f (k : Nat) (l0 : List (S27)) (a1 : Int) (a2 : Int) (a3 : Int) : Option (Bool) := (ZE.f k).bind fun t310 => (if t310 = true then ((Xc.f l0 ([] : List (S61)) ([] : List (S56))).bind fun t311 => (if t311 = true then (some true) else ((ZX.f k l0 a1 a2).bind fun bt312 => ((ZB.f k l0 a1 a2).bind fun bt314 => (if bt312.1 = bt314.1 then (if bt312.2 = bt314.2 then ((Zt.f k l0).bind fun t316 => ((Zh.f k l0).bind fun t317 => (Zj.j0 k l0 a1 a2 a3 bt312.1 bt312.2 (t316 != t317)))) else (Zj.j0 k l0 a1 a2 a3 bt312.1 bt312.2 true)) else (Zj.j0 k l0 a1 a2 a3 bt312.1 bt312.2 true)))))) else (some false))
theorem Zj.Xq : ∀ k,(∀ y0 y1 y2 y3 y4 y5 y6,LeO (Zj.j0 k y0 y1 y2 y3 y4 y5 y6) (Zj.j0 (k + 1) y0 y1 y2 y3 y4 y5 y6)) ∧ (∀ y0 y1 y2 y3,LeO (Zj.j2 k y0 y1 y2 y3) (Zj.j2 (k + 1) y0 y1 y2 y3)) ∧ (∀ y0 y1 y2,LeO (Zj.j3 k y0 y1 y2) (Zj.j3 (k + 1) y0 y1 y2)) ∧ (∀ y0 y1 y2 y3 y4 y5 y6,LeO (Zj.j1 k y0 y1 y2 y3 y4 y5 y6) (Zj.j1 (k + 1) y0 y1 y2 y3 y4 y5 y6))
 | 0 => ⟨fun _ _ _ _ _ _ _ r h => by simp [Zj.j0] at h,fun _ _ _ _ r h => by simp [Zj.j2] at h,fun _ _ _ r h => by simp [Zj.j3] at h,fun _ _ _ _ _ _ _ r h => by simp [Zj.j1] at h⟩
 | k + 1 => by
  obtain ⟨ih0,ih1,ih2,ih3⟩ := Zj.Xq k; refine ⟨?_,?_,?_,?_⟩
  · intro y0 y1 y2 y3 y4 y5 y6
    unfold Zj.j0
    repeat' first
    | (with_reducible exact ih0 _ _ _ _ _ _ _)
    | (with_reducible exact ih1 _ _ _ _)
    | (with_reducible exact ih2 _ _ _)
    | (with_reducible exact ih3 _ _ _ _ _ _ _)
    | (with_reducible exact ZE.mono _)
    | (with_reducible exact ZB.mono _ _ _ _)
    | (with_reducible exact ZS.mono _ _ _)
    | (with_reducible exact ZY.mono _ _ _ _)
    | (with_reducible exact Zh.mono _ _)
    | (with_reducible exact ZX.mono _ _ _ _)
    | (with_reducible exact Xp.mono _ _ _)
    | (with_reducible exact Xu.mono _ _ _ _)
    | (with_reducible exact Zt.mono _ _)
    | (with_reducible exact LeO.refl _)
    | (with_reducible exact LeO.none _)
    | (with_reducible refine LeO.ite ?_ ?_)
    | (with_reducible refine LeO.bind ?_ (fun _ => ?_))
    | exact ih0 _ _ _ _ _ _ _
    | exact ih1 _ _ _ _
    | exact ih2 _ _ _
    | exact ih3 _ _ _ _ _ _ _
    | exact ZE.mono _
    | exact ZB.mono _ _ _ _
    | exact ZS.mono _ _ _
    | exact ZY.mono _ _ _ _
    | exact Zh.mono _ _
    | exact ZX.mono _ _ _ _
    | exact Xp.mono _ _ _
    | exact Xu.mono _ _ _ _
    | exact Zt.mono _ _
    | exact LeO.none _
    | refine LeO.ite ?_ ?_
    | refine LeO.bind ?_ (fun _ => ?_)
  · intro y0 y1 y2 y3
    unfold Zj.j2
    repeat' first
    | (with_reducible exact ih0 _ _ _ _ _ _ _)
    | (with_reducible exact ih1 _ _ _ _)
    | (with_reducible exact ih2 _ _ _)
    | (with_reducible exact ih3 _ _ _ _ _ _ _)
    | (with_reducible exact ZE.mono _)
    | (with_reducible exact ZB.mono _ _ _ _)
    | (with_reducible exact ZS.mono _ _ _)
    | (with_reducible exact ZY.mono _ _ _ _)
    | (with_reducible exact Zh.mono _ _)
    | (with_reducible exact ZX.mono _ _ _ _)
    | (with_reducible exact Xp.mono _ _ _)
    | (with_reducible exact Xu.mono _ _ _ _)
    | (with_reducible exact Zt.mono _ _)
    | (with_reducible exact LeO.refl _)
    | (with_reducible exact LeO.none _)
    | (with_reducible refine LeO.ite ?_ ?_)
    | (with_reducible refine LeO.bind ?_ (fun _ => ?_))
    | exact ih0 _ _ _ _ _ _ _
    | exact ih1 _ _ _ _
    | exact ih2 _ _ _
    | exact ih3 _ _ _ _ _ _ _
    | exact ZE.mono _
    | exact ZB.mono _ _ _ _
    | exact ZS.mono _ _ _
    | exact ZY.mono _ _ _ _
    | exact Zh.mono _ _
    | exact ZX.mono _ _ _ _
    | exact Xp.mono _ _ _
    | exact Xu.mono _ _ _ _
    | exact Zt.mono _ _
    | exact LeO.none _
    | refine LeO.ite ?_ ?_
    | refine LeO.bind ?_ (fun _ => ?_)
  · intro y0 y1 y2
    unfold Zj.j3
    repeat' first
    | (with_reducible exact ih0 _ _ _ _ _ _ _)
    | (with_reducible exact ih1 _ _ _ _)
    | (with_reducible exact ih2 _ _ _)
    | (with_reducible exact ih3 _ _ _ _ _ _ _)
    | (with_reducible exact ZE.mono _)
    | (with_reducible exact ZB.mono _ _ _ _)
    | (with_reducible exact ZS.mono _ _ _)
    | (with_reducible exact ZY.mono _ _ _ _)
    | (with_reducible exact Zh.mono _ _)
    | (with_reducible exact ZX.mono _ _ _ _)
    | (with_reducible exact Xp.mono _ _ _)
    | (with_reducible exact Xu.mono _ _ _ _)
    | (with_reducible exact Zt.mono _ _)
    | (with_reducible exact LeO.refl _)
    | (with_reducible exact LeO.none _)
    | (with_reducible refine LeO.ite ?_ ?_)
    | (with_reducible refine LeO.bind ?_ (fun _ => ?_))
    | exact ih0 _ _ _ _ _ _ _
    | exact ih1 _ _ _ _
    | exact ih2 _ _ _
    | exact ih3 _ _ _ _ _ _ _
    | exact ZE.mono _
    | exact ZB.mono _ _ _ _
    | exact ZS.mono _ _ _
    | exact ZY.mono _ _ _ _
    | exact Zh.mono _ _
    | exact ZX.mono _ _ _ _
    | exact Xp.mono _ _ _
    | exact Xu.mono _ _ _ _
    | exact Zt.mono _ _
    | exact LeO.none _
    | refine LeO.ite ?_ ?_
    | refine LeO.bind ?_ (fun _ => ?_)
  · intro y0 y1 y2 y3 y4 y5 y6
    unfold Zj.j1
    repeat' first
    | (with_reducible exact ih0 _ _ _ _ _ _ _)
    | (with_reducible exact ih1 _ _ _ _)
    | (with_reducible exact ih2 _ _ _)
    | (with_reducible exact ih3 _ _ _ _ _ _ _)
    | (with_reducible exact ZE.mono _)
    | (with_reducible exact ZB.mono _ _ _ _)
    | (with_reducible exact ZS.mono _ _ _)
    | (with_reducible exact ZY.mono _ _ _ _)
    | (with_reducible exact Zh.mono _ _)
    | (with_reducible exact ZX.mono _ _ _ _)
    | (with_reducible exact Xp.mono _ _ _)
    | (with_reducible exact Xu.mono _ _ _ _)
    | (with_reducible exact Zt.mono _ _)
    | (with_reducible exact LeO.refl _)
    | (with_reducible exact LeO.none _)
    | (with_reducible refine LeO.ite ?_ ?_)
    | (with_reducible refine LeO.bind ?_ (fun _ => ?_))
    | exact ih0 _ _ _ _ _ _ _
    | exact ih1 _ _ _ _
    | exact ih2 _ _ _
    | exact ih3 _ _ _ _ _ _ _
    | exact ZE.mono _
    | exact ZB.mono _ _ _ _
    | exact ZS.mono _ _ _
    | exact ZY.mono _ _ _ _
    | exact Zh.mono _ _
    | exact ZX.mono _ _ _ _
    | exact Xp.mono _ _ _
    | exact Xu.mono _ _ _ _
    | exact Zt.mono _ _
    | exact LeO.none _
    | refine LeO.ite ?_ ?_
    | refine LeO.bind ?_ (fun _ => ?_)
theorem Zj.mono : ∀ a0 a1 a2 a3 k,LeO (Zj.f k a0 a1 a2 a3) (Zj.f (k + 1) a0 a1 a2 a3) := by
 intro a0 a1 a2 a3 k; obtain ⟨ih0,ih1,ih2,ih3⟩ := Zj.Xq k; unfold Zj.f
 repeat' first
  | (with_reducible exact ih0 _ _ _ _ _ _ _)
  | (with_reducible exact ih1 _ _ _ _)
  | (with_reducible exact ih2 _ _ _)
  | (with_reducible exact ih3 _ _ _ _ _ _ _)
  | (with_reducible exact ZE.mono _)
  | (with_reducible exact ZB.mono _ _ _ _)
  | (with_reducible exact ZS.mono _ _ _)
  | (with_reducible exact ZY.mono _ _ _ _)
  | (with_reducible exact Zh.mono _ _)
  | (with_reducible exact ZX.mono _ _ _ _)
  | (with_reducible exact Xp.mono _ _ _)
  | (with_reducible exact Xu.mono _ _ _ _)
  | (with_reducible exact Zt.mono _ _)
  | (with_reducible exact LeO.refl _)
  | (with_reducible exact LeO.none _)
  | (with_reducible refine LeO.ite ?_ ?_)
  | (with_reducible refine LeO.bind ?_ (fun _ => ?_))
  | exact ih0 _ _ _ _ _ _ _
  | exact ih1 _ _ _ _
  | exact ih2 _ _ _
  | exact ih3 _ _ _ _ _ _ _
  | exact ZE.mono _
  | exact ZB.mono _ _ _ _
  | exact ZS.mono _ _ _
  | exact ZY.mono _ _ _ _
  | exact Zh.mono _ _
  | exact ZX.mono _ _ _ _
  | exact Xp.mono _ _ _
  | exact Xu.mono _ _ _ _
  | exact Zt.mono _ _
  | exact LeO.none _
  | refine LeO.ite ?_ ?_
  | refine LeO.bind ?_ (fun _ => ?_)
set_option maxHeartbeats 8000000 in
set_option maxRecDepth 100000 in
theorem Zj.calls (k : Nat) (A0 : Option Addr) (c0 : Nat) (l0 : List (S27)) (a1 : Int) (a2 : Int) (a3 : Int) (r : Bool) (w : World) (hr0 : Kd.C k27 w A0 l0.length l0) (hc0 : l0.length ≤ c0) (h : Zj.f k l0 a1 a2 a3 = some r) :
 Calls Try.prog 6 #[.slice A0 l0.length c0,.int .i64 a1,.int .i64 a2,.int .i64 a3] w fun e w' => e = .returned (.bool r) ∧ Below w.heap.size w w' := by
 have HR0 := Zc.mk hr0; have HC0 := Zc.mk hc0; clear hr0 hc0; have HB := Zc.mk (Below.refl w.heap.size w); have H : ((ZE.f k).bind fun t310 => (if t310 = true then ((Xc.f l0 ([] : List (S61)) ([] : List (S56))).bind fun t311 => (if t311 = true then (some true) else ((ZX.f k l0 a1 a2).bind fun bt312 => ((ZB.f k l0 a1 a2).bind fun bt314 => (if bt312.1 = bt314.1 then (if bt312.2 = bt314.2 then ((Zt.f k l0).bind fun t316 => ((Zh.f k l0).bind fun t317 => (Zj.j0 k l0 a1 a2 a3 bt312.1 bt312.2 (t316 != t317)))) else (Zj.j0 k l0 a1 a2 a3 bt312.1 bt312.2 true)) else (Zj.j0 k l0 a1 a2 a3 bt312.1 bt312.2 true)))))) else (some false))) = some r := h; clear h; replace H := Option.bind_eq_some_iff.mp H; obtain ⟨t310,A50,H⟩ := H; replace H : (if t310 = true then ((Xc.f l0 ([] : List (S61)) ([] : List (S56))).bind fun t311 => (if t311 = true then (some true) else ((ZX.f k l0 a1 a2).bind fun bt312 => ((ZB.f k l0 a1 a2).bind fun bt314 => (if bt312.1 = bt314.1 then (if bt312.2 = bt314.2 then ((Zt.f k l0).bind fun t316 => ((Zh.f k l0).bind fun t317 => (Zj.j0 k l0 a1 a2 a3 bt312.1 bt312.2 (t316 != t317)))) else (Zj.j0 k l0 a1 a2 a3 bt312.1 bt312.2 true)) else (Zj.j0 k l0 a1 a2 a3 bt312.1 bt312.2 true)))))) else (some false)) = some r := H; have A5 := Zc.mk A50; clear A50
 by_cases c6 : t310 = true
 · subst c6
   have H1 : ((Xc.f l0 ([] : List (S61)) ([] : List (S56))).bind fun t311 => (if t311 = true then (some true) else ((ZX.f k l0 a1 a2).bind fun bt312 => ((ZB.f k l0 a1 a2).bind fun bt314 => (if bt312.1 = bt314.1 then (if bt312.2 = bt314.2 then ((Zt.f k l0).bind fun t316 => ((Zh.f k l0).bind fun t317 => (Zj.j0 k l0 a1 a2 a3 bt312.1 bt312.2 (t316 != t317)))) else (Zj.j0 k l0 a1 a2 a3 bt312.1 bt312.2 true)) else (Zj.j0 k l0 a1 a2 a3 bt312.1 bt312.2 true)))))) = some r := by rw [if_pos rfl] at H; exact H
   clear H; have H := H1; clear H1; replace H := Option.bind_eq_some_iff.mp H; obtain ⟨t311,A70,H⟩ := H; replace H : (if t311 = true then (some true) else ((ZX.f k l0 a1 a2).bind fun bt312 => ((ZB.f k l0 a1 a2).bind fun bt314 => (if bt312.1 = bt314.1 then (if bt312.2 = bt314.2 then ((Zt.f k l0).bind fun t316 => ((Zh.f k l0).bind fun t317 => (Zj.j0 k l0 a1 a2 a3 bt312.1 bt312.2 (t316 != t317)))) else (Zj.j0 k l0 a1 a2 a3 bt312.1 bt312.2 true)) else (Zj.j0 k l0 a1 a2 a3 bt312.1 bt312.2 true))))) = some r := H; have A7 := Zc.mk A70; clear A70
   by_cases c8 : t311 = true
   · subst c8
     have H1 : (some true) = some r := by rw [if_pos rfl] at H; exact H
     clear H; have H := H1; clear H1; obtain rfl := Option.some.inj H
     go_enter Try.func6,Try.ntmps6
     go_wp2_with (first | ((with_reducible refine Z1 (f := 9) rfl ?_); refine ZQ (some 17) rfl rfl Try.func9 (by kernel_rfl) rfl #[] rfl (by (try simp only [List.map_toArray,List.map_cons,List.map_nil]); first | done | rfl | (simp only [List.length_drop,List.length_take]; rfl)) ?_; (with_reducible refine (ZE.calls k  true _ A5.out).mono ?_); rintro e w9 ⟨rfl,hb⟩; refine ⟨_,rfl,?_⟩; have n0_ := Zc.mk (Z3 (by repeat (first | (with_reducible first | exact HB.out | apply Zd | apply Za | apply Zb) | exact HB.out)) hb); clear HB; have HB := n0_; clear n0_; (try clear hb); (try clear hb2); (try clear hk); (try clear hi)) | ((with_reducible refine Z1 (f := 10) rfl ?_); refine ZQ (some 20) rfl rfl Try.func10 (by kernel_rfl) rfl #[.slice A0 l0.length c0,.slice none 0 0,.slice none 0 0] rfl (by (try simp only [List.map_toArray,List.map_cons,List.map_nil]); first | done | rfl | (simp only [List.length_drop,List.length_take]; rfl)) ?_; (refine (Xc.calls _ _ l0 _ _ ([] : List (S61)) _ _ ([] : List (S56)) true _ ?side1 ?side2 ?side3 ?side4 ?side5 ?side6 A7.out).mono ?_); (case side1 => repeat (first | exact (Kd.ZO HR0.out HB.out) | (with_reducible refine Kd.ZA ?_ _) | (with_reducible refine Kd.Z9 ?_ _) | (with_reducible refine Kd.ZI ?_))); (case side2 => exact HC0.out); (case side3 => exact Kd.C_nil _ _); (case side4 => exact Nat.le_refl _); (case side5 => exact Kd.C_nil _ _); (case side6 => exact Nat.le_refl _); rintro e w' ⟨rfl,⟨nd,rfl⟩⟩; refine ⟨_,rfl,?_⟩))
     go_ret; exact ⟨by first | rfl | (simp [Zv,Zu] <;> rfl) | (simp [*,Zv,Zu] <;> rfl),by repeat (first | (with_reducible first | exact HB.out | apply Zd | apply Za | apply Zb) | exact HB.out)⟩
   · replace c8 := Bool.eq_false_iff.mpr c8
     subst c8
     have H1 : ((ZX.f k l0 a1 a2).bind fun bt312 => ((ZB.f k l0 a1 a2).bind fun bt314 => (if bt312.1 = bt314.1 then (if bt312.2 = bt314.2 then ((Zt.f k l0).bind fun t316 => ((Zh.f k l0).bind fun t317 => (Zj.j0 k l0 a1 a2 a3 bt312.1 bt312.2 (t316 != t317)))) else (Zj.j0 k l0 a1 a2 a3 bt312.1 bt312.2 true)) else (Zj.j0 k l0 a1 a2 a3 bt312.1 bt312.2 true)))) = some r := by rw [if_neg (show ¬ (false = true) by decide)] at H; exact H
     clear H; have H := H1; clear H1; replace H := Option.bind_eq_some_iff.mp H; obtain ⟨⟨t312,t313⟩,A100,H⟩ := H; replace H : ((ZB.f k l0 a1 a2).bind fun bt314 => (if t312 = bt314.1 then (if t313 = bt314.2 then ((Zt.f k l0).bind fun t316 => ((Zh.f k l0).bind fun t317 => (Zj.j0 k l0 a1 a2 a3 t312 t313 (t316 != t317)))) else (Zj.j0 k l0 a1 a2 a3 t312 t313 true)) else (Zj.j0 k l0 a1 a2 a3 t312 t313 true))) = some r := H; have A10 := Zc.mk A100; clear A100; replace H := Option.bind_eq_some_iff.mp H; obtain ⟨⟨t314,t315⟩,A110,H⟩ := H; replace H : (if t312 = t314 then (if t313 = t315 then ((Zt.f k l0).bind fun t316 => ((Zh.f k l0).bind fun t317 => (Zj.j0 k l0 a1 a2 a3 t312 t313 (t316 != t317)))) else (Zj.j0 k l0 a1 a2 a3 t312 t313 true)) else (Zj.j0 k l0 a1 a2 a3 t312 t313 true)) = some r := H; have A11 := Zc.mk A110; clear A110; have HC12 := Zc.mk H; clear H
     go_enter Try.func6,Try.ntmps6
     go_upto_region 7 with (first | ((with_reducible refine Z1 (f := 9) rfl ?_); refine ZQ (some 17) rfl rfl Try.func9 (by kernel_rfl) rfl #[] rfl (by (try simp only [List.map_toArray,List.map_cons,List.map_nil]); first | done | rfl | (simp only [List.length_drop,List.length_take]; rfl)) ?_; (with_reducible refine (ZE.calls k  true _ A5.out).mono ?_); rintro e w13 ⟨rfl,hb⟩; refine ⟨_,rfl,?_⟩; have n0_ := Zc.mk (Z3 (by repeat (first | (with_reducible first | exact HB.out | apply Zd | apply Za | apply Zb) | exact HB.out)) hb); clear HB; have HB := n0_; clear n0_; (try clear hb); (try clear hb2); (try clear hk); (try clear hi)) | ((with_reducible refine Z1 (f := 10) rfl ?_); refine ZQ (some 20) rfl rfl Try.func10 (by kernel_rfl) rfl #[.slice A0 l0.length c0,.slice none 0 0,.slice none 0 0] rfl (by (try simp only [List.map_toArray,List.map_cons,List.map_nil]); first | done | rfl | (simp only [List.length_drop,List.length_take]; rfl)) ?_; (refine (Xc.calls _ _ l0 _ _ ([] : List (S61)) _ _ ([] : List (S56)) false _ ?side1 ?side2 ?side3 ?side4 ?side5 ?side6 A7.out).mono ?_); (case side1 => repeat (first | exact (Kd.ZO HR0.out HB.out) | (with_reducible refine Kd.ZA ?_ _) | (with_reducible refine Kd.Z9 ?_ _) | (with_reducible refine Kd.ZI ?_))); (case side2 => exact HC0.out); (case side3 => exact Kd.C_nil _ _); (case side4 => exact Nat.le_refl _); (case side5 => exact Kd.C_nil _ _); (case side6 => exact Nat.le_refl _); rintro e w' ⟨rfl,⟨nd,rfl⟩⟩; refine ⟨_,rfl,?_⟩) | ((with_reducible refine Z1 (f := 13) rfl ?_); refine ZQ (some 25) rfl rfl Try.func13 (by kernel_rfl) rfl #[.slice A0 l0.length c0,.int .i64 a1,.int .i64 a2] rfl (by (try simp only [List.map_toArray,List.map_cons,List.map_nil]); first | done | rfl | (simp only [List.length_drop,List.length_take]; rfl)) ?_; (with_reducible refine (ZX.calls k _ _ l0 a1 a2 t312 t313 _ ?side1 ?side2 A10.out).mono ?_); (case side1 => repeat (first | exact (Kd.ZO HR0.out (by repeat (first | (with_reducible first | exact HB.out | apply Zd | apply Za | apply Zb) | exact HB.out))) | (with_reducible refine Kd.ZA ?_ _) | (with_reducible refine Kd.Z9 ?_ _) | (with_reducible refine Kd.ZI ?_))); (case side2 => exact HC0.out); rintro e w14 ⟨rfl,hb⟩; refine ⟨_,rfl,?_⟩; have n0_ := Zc.mk (Z3 (by repeat (first | (with_reducible first | exact HB.out | apply Zd | apply Za | apply Zb) | exact HB.out)) hb); clear HB; have HB := n0_; clear n0_; (try clear hb); (try clear hb2); (try clear hk); (try clear hi)) | ((with_reducible refine Z1 (f := 24) rfl ?_); refine ZQ (some 32) rfl rfl Try.func24 (by kernel_rfl) rfl #[.slice A0 l0.length c0,.int .i64 a1,.int .i64 a2] rfl (by (try simp only [List.map_toArray,List.map_cons,List.map_nil]); first | done | rfl | (simp only [List.length_drop,List.length_take]; rfl)) ?_; (with_reducible refine (ZB.calls k _ _ l0 a1 a2 t314 t315 _ ?side1 ?side2 A11.out).mono ?_); (case side1 => repeat (first | exact (Kd.ZO HR0.out HB.out) | (with_reducible refine Kd.ZA ?_ _) | (with_reducible refine Kd.Z9 ?_ _) | (with_reducible refine Kd.ZI ?_))); (case side2 => exact HC0.out); rintro e w15 ⟨rfl,hb⟩; refine ⟨_,rfl,?_⟩; have n0_ := Zc.mk (Z3 (by repeat (first | (with_reducible first | exact HB.out | apply Zd | apply Za | apply Zb) | exact HB.out)) hb); clear HB; have HB := n0_; clear n0_; (try clear hb); (try clear hb2); (try clear hk); (try clear hi)))
     (try simp only [Act.put,YD,YE,YF])
     go_cut [49] (fun v49 wc => ∃ (kq : Nat) (x49_11 : Bool),v49 = .bool x49_11 ∧ Zc (Zj.j0 kq l0 a1 a2 a3 t312 t313 x49_11 = some r) ∧ Zc (kq ≤ k) ∧ Zc (Below w.heap.size w wc))
     case first =>
      have H := HC12.out; clear HC12
      by_cases c16 : t312 = t314
      · rw [if_pos c16] at H
        have c16b0 : (t312 == t314) = true := beq_iff_eq.mpr c16; have c16b1 : (t312 != t314) = false := bne_eq_false_iff_eq.mpr c16; clear c16
        (first | rw [c16b0] | (simp only [i64_w,i32_w]; rw [c16b0]) | skip)
        by_cases c17 : t313 = t315
        · rw [if_pos c17] at H
          have c17b0 : (t313 == t315) = true := beq_iff_eq.mpr c17; have c17b1 : (t313 != t315) = false := bne_eq_false_iff_eq.mpr c17; clear c17; replace H := Option.bind_eq_some_iff.mp H; obtain ⟨t316,A180,H⟩ := H; replace H : ((Zh.f k l0).bind fun t317 => (Zj.j0 k l0 a1 a2 a3 t312 t313 (t316 != t317))) = some r := H; have A18 := Zc.mk A180; clear A180; replace H := Option.bind_eq_some_iff.mp H; obtain ⟨t317,A190,H⟩ := H; replace H : (Zj.j0 k l0 a1 a2 a3 t312 t313 (t316 != t317)) = some r := H; have A19 := Zc.mk A190; clear A190; have H' := Zc.mk H; clear H
          go_wp2_with (first | (go_at_call 25; (with_reducible refine (Zt.calls k _ _ l0 t316 _ ?side1 ?side2 A18.out).mono ?_); (case side1 => repeat (first | exact (Kd.ZO HR0.out HB.out) | (with_reducible refine Kd.ZA ?_ _) | (with_reducible refine Kd.Z9 ?_ _) | (with_reducible refine Kd.ZI ?_))); (case side2 => exact HC0.out); rintro e w20 ⟨rfl,hb⟩; have n0_ := Zc.mk (Z3 (by repeat (first | (with_reducible first | exact HB.out | apply Zd | apply Za | apply Zb) | exact HB.out)) hb); clear HB; have HB := n0_; clear n0_; (try clear hb); (try clear hb2); (try clear hk); (try clear hi)) | (go_at_call 11; (with_reducible refine (Zh.calls k _ _ l0 t317 _ ?side1 ?side2 A19.out).mono ?_); (case side1 => repeat (first | exact (Kd.ZO HR0.out HB.out) | (with_reducible refine Kd.ZA ?_ _) | (with_reducible refine Kd.Z9 ?_ _) | (with_reducible refine Kd.ZI ?_))); (case side2 => exact HC0.out); rintro e w21 ⟨rfl,hb⟩; have n0_ := Zc.mk (Z3 (by repeat (first | (with_reducible first | exact HB.out | apply Zd | apply Za | apply Zb) | exact HB.out)) hb); clear HB; have HB := n0_; clear n0_; (try clear hb); (try clear hb2); (try clear hk); (try clear hi)))
          go_meet
          case rel => exact ⟨_,((t316 != t317)),(by first | rfl | (simp; done) | (simp [*]; done)),H',⟨by first | omega | exact Nat.le_refl _⟩,⟨by repeat (first | (with_reducible first | exact HB.out | apply Zd | apply Za | apply Zb) | exact HB.out)⟩⟩
        · rw [if_neg c17] at H
          have c17b0 : (t313 == t315) = false := beq_eq_false_iff_ne.mpr c17; have c17b1 : (t313 != t315) = true := bne_iff_ne.mpr c17; have H' := Zc.mk H; clear H
          go_wp2
          go_meet
          case rel => exact ⟨_,(true),(by first | rfl | (simp; done) | (simp [*]; done)),H',⟨by first | omega | exact Nat.le_refl _⟩,⟨by repeat (first | (with_reducible first | exact HB.out | apply Zd | apply Za | apply Zb) | exact HB.out)⟩⟩
      · rw [if_neg c16] at H
        have c16b0 : (t312 == t314) = false := beq_eq_false_iff_ne.mpr c16; have c16b1 : (t312 != t314) = true := bne_iff_ne.mpr c16
        (first | rw [c16b0] | (simp only [i64_w,i32_w]; rw [c16b0]) | skip)
        have H' := Zc.mk H; clear H
        go_wp2
        go_meet
        case rel => exact ⟨_,(true),(by first | rfl | (simp; done) | (simp [*]; done)),H',⟨by first | omega | exact Nat.le_refl _⟩,⟨by repeat (first | (with_reducible first | exact HB.out | apply Zd | apply Za | apply Zb) | exact HB.out)⟩⟩
     case rest =>
      clear HC12
      (try clear c1); (try clear c2); (try clear p2); (try clear c6); (try clear c8); (try clear c9); (try clear c10); (try clear c13); (try clear c16); (try clear c16b0); (try clear c16b1); (try clear c17); (try clear c17b0); (try clear c17b1)
      obtain ⟨kq,x49_11,rfl,HA,HJ11,HB⟩ := hcut
      cases kq with
      | zero => exact absurd HA.out (by simp [Zj.j0])
      | succ kj11 =>
       have H := HA.out; clear HA; simp only [Zj.j0] at H
       by_cases c22 : x49_11 = true
       · subst c22
         have H1 : (some false) = some r := by rw [if_pos rfl] at H; exact H
         clear H; have H := H1; clear H1; obtain rfl := Option.some.inj H
         go_wp2
         go_ret; exact ⟨by first | rfl | (simp [Zv,Zu] <;> rfl) | (simp [*,Zv,Zu] <;> rfl),by repeat (first | (with_reducible first | exact HB.out | apply Zd | apply Za | apply Zb) | exact HB.out)⟩
       · replace c22 := Bool.eq_false_iff.mpr c22
         subst c22
         have H1 : (if t313 = 0 then ((Xu.f kj11 l0 a1 t312).bind fun bt318 => (if bt318.2 = 0 then (Zj.j1 kj11 l0 a1 a2 a3 t312 bt318.1 (decide (bt318.1 < a2))) else (Zj.j1 kj11 l0 a1 a2 a3 t312 bt318.1 true))) else (Zj.j2 kj11 l0 a1 a2 a3)) = some r := by rw [if_neg (show ¬ (false = true) by decide)] at H; exact H
         clear H; have H := H1; clear H1; have HC23 := Zc.mk H; clear H
         go_upto_if 51 with (fail)
         go_cut [] (fun wc => ∃ (kq : Nat),Zc (Zj.j2 kq l0 a1 a2 a3 = some r) ∧ Zc (kq ≤ kj11) ∧ Zc (Below w.heap.size w wc))
         case first =>
          have H := HC23.out; clear HC23
          by_cases c24 : t313 = 0
          · rw [if_pos c24] at H
            have c24b0 : (t313 == 0) = true := beq_iff_eq.mpr c24; have c24b1 : (t313 != 0) = false := bne_eq_false_iff_eq.mpr c24; clear c24
            (first | rw [c24b0] | (simp only [i64_w,i32_w]; rw [c24b0]) | skip)
            replace H := Option.bind_eq_some_iff.mp H; obtain ⟨⟨t318,t319⟩,A250,H⟩ := H; replace H : (if t319 = 0 then (Zj.j1 kj11 l0 a1 a2 a3 t312 t318 (decide (t318 < a2))) else (Zj.j1 kj11 l0 a1 a2 a3 t312 t318 true)) = some r := H; have A25 := Zc.mk A250; clear A250; have HC26 := Zc.mk H; clear H
            go_upto_region 11 with (first | ((with_reducible refine Z1 (f := 26) rfl ?_); refine ZQ (some 56) rfl rfl Try.func26 (by kernel_rfl) rfl #[.slice A0 l0.length c0,.int .i64 a1,.int .i64 t312] rfl (by (try simp only [List.map_toArray,List.map_cons,List.map_nil]); first | done | rfl | (simp only [List.length_drop,List.length_take]; rfl)) ?_; (with_reducible refine (Xu.calls kj11 _ _ l0 a1 t312 t318 t319 _ ?side1 ?side2 A25.out).mono ?_); (case side1 => repeat (first | exact (Kd.ZO HR0.out HB.out) | (with_reducible refine Kd.ZA ?_ _) | (with_reducible refine Kd.Z9 ?_ _) | (with_reducible refine Kd.ZI ?_))); (case side2 => exact HC0.out); rintro e w27 ⟨rfl,hb⟩; refine ⟨_,rfl,?_⟩; have n0_ := Zc.mk (Z3 (by repeat (first | (with_reducible first | exact HB.out | apply Zd | apply Za | apply Zb) | exact HB.out)) hb); clear HB; have HB := n0_; clear n0_; (try clear hb); (try clear hb2); (try clear hk); (try clear hi)))
            (try simp only [Act.put,YD,YE,YF])
            go_cut [65] (fun v65 wc => ∃ (kq : Nat) (x65_25 : Bool),v65 = .bool x65_25 ∧ Zc (Zj.j1 kq l0 a1 a2 a3 t312 t318 x65_25 = some r) ∧ Zc (kq ≤ kj11) ∧ Zc (Below w.heap.size w wc))
            case first =>
             have H := HC26.out; clear HC26
             by_cases c28 : t319 = 0
             · rw [if_pos c28] at H
               have c28b0 : (t319 == 0) = true := beq_iff_eq.mpr c28; have c28b1 : (t319 != 0) = false := bne_eq_false_iff_eq.mpr c28; clear c28
               (first | rw [c28b0] | (simp only [i64_w,i32_w]; rw [c28b0]) | skip)
               have H' := Zc.mk H; clear H
               go_wp2
               go_meet
               case rel => exact ⟨_,(decide (t318 < a2)),(by first | rfl | (simp; done) | (simp [*]; done)),H',⟨by have := HJ11.out; first | omega | exact Nat.le_refl _⟩,⟨by repeat (first | (with_reducible first | exact HB.out | apply Zd | apply Za | apply Zb) | exact HB.out)⟩⟩
             · rw [if_neg c28] at H
               have c28b0 : (t319 == 0) = false := beq_eq_false_iff_ne.mpr c28; have c28b1 : (t319 != 0) = true := bne_iff_ne.mpr c28
               (first | rw [c28b0] | (simp only [i64_w,i32_w]; rw [c28b0]) | skip)
               have H' := Zc.mk H; clear H
               go_wp2
               go_meet
               case rel => exact ⟨_,(true),(by first | rfl | (simp; done) | (simp [*]; done)),H',⟨by have := HJ11.out; first | omega | exact Nat.le_refl _⟩,⟨by repeat (first | (with_reducible first | exact HB.out | apply Zd | apply Za | apply Zb) | exact HB.out)⟩⟩
            case rest =>
             clear HC26
             (try clear c1); (try clear c2); (try clear p2); (try clear c6); (try clear c8); (try clear c9); (try clear c10); (try clear c13); (try clear c16); (try clear c16b0); (try clear c16b1); (try clear c17); (try clear c17b0); (try clear c17b1); (try clear c22); (try clear c24); (try clear c24b0); (try clear c24b1); (try clear c26); (try clear c28); (try clear c28b0); (try clear c28b1); (try clear p2)
             obtain ⟨kq,x65_25,rfl,HA,HJ25,HB⟩ := hcut
             cases kq with
             | zero => exact absurd HA.out (by simp [Zj.j1])
             | succ kj25 =>
              have H := HA.out; clear HA; simp only [Zj.j1] at H
              by_cases c29 : x65_25 = true
              · subst c29
                have H1 : (some false) = some r := by rw [if_pos rfl] at H; exact H
                clear H; have H := H1; clear H1; obtain rfl := Option.some.inj H
                go_wp2
                go_ret; exact ⟨by first | rfl | (simp [Zv,Zu] <;> rfl) | (simp [*,Zv,Zu] <;> rfl),by repeat (first | (with_reducible first | exact HB.out | apply Zd | apply Za | apply Zb) | exact HB.out)⟩
              · replace c29 := Bool.eq_false_iff.mpr c29
                subst c29
                have H1 : ((ZX.f kj25 l0 a1 t318).bind fun bt320 => (if bt320.2 = 0 then (if bt320.1 = t312 then (Zj.j2 kj25 l0 a1 a2 a3) else (some false)) else (some false))) = some r := by rw [if_neg (show ¬ (false = true) by decide)] at H; exact H
                clear H; have H := H1; clear H1; replace H := Option.bind_eq_some_iff.mp H; obtain ⟨⟨t320,t321⟩,A300,H⟩ := H; replace H : (if t321 = 0 then (if t320 = t312 then (Zj.j2 kj25 l0 a1 a2 a3) else (some false)) else (some false)) = some r := H; have A30 := Zc.mk A300; clear A300
                by_cases c31 : t321 = 0
                · rw [if_pos c31] at H
                  have c31b0 : (t321 == 0) = true := beq_iff_eq.mpr c31; have c31b1 : (t321 != 0) = false := bne_eq_false_iff_eq.mpr c31; clear c31
                  by_cases c32 : t320 = t312
                  · rw [if_pos c32] at H
                    have c32b0 : (t320 == t312) = true := beq_iff_eq.mpr c32; have c32b1 : (t320 != t312) = false := bne_eq_false_iff_eq.mpr c32; clear c32; have H' := Zc.mk H; clear H
                    go_wp2_with (first | ((with_reducible refine Z1 (f := 13) rfl ?_); refine ZQ (some 70) rfl rfl Try.func13 (by kernel_rfl) rfl #[.slice A0 l0.length c0,.int .i64 a1,.int .i64 t318] rfl (by (try simp only [List.map_toArray,List.map_cons,List.map_nil]); first | done | rfl | (simp only [List.length_drop,List.length_take]; rfl)) ?_; (with_reducible refine (ZX.calls kj25 _ _ l0 a1 t318 t320 t321 _ ?side1 ?side2 A30.out).mono ?_); (case side1 => repeat (first | exact (Kd.ZO HR0.out HB.out) | (with_reducible refine Kd.ZA ?_ _) | (with_reducible refine Kd.Z9 ?_ _) | (with_reducible refine Kd.ZI ?_))); (case side2 => exact HC0.out); rintro e w33 ⟨rfl,hb⟩; refine ⟨_,rfl,?_⟩; have n0_ := Zc.mk (Z3 (by repeat (first | (with_reducible first | exact HB.out | apply Zd | apply Za | apply Zb) | exact HB.out)) hb); clear HB; have HB := n0_; clear n0_; (try clear hb); (try clear hb2); (try clear hk); (try clear hi)))
                    go_meet
                    case rel => exact ⟨_,H',⟨by have := HJ11.out; have := HJ25.out; first | omega | exact Nat.le_refl _⟩,⟨by repeat (first | (with_reducible first | exact HB.out | apply Zd | apply Za | apply Zb) | exact HB.out)⟩⟩
                  · rw [if_neg c32] at H
                    have c32b0 : (t320 == t312) = false := beq_eq_false_iff_ne.mpr c32; have c32b1 : (t320 != t312) = true := bne_iff_ne.mpr c32; obtain rfl := Option.some.inj H
                    go_wp2_with (first | ((with_reducible refine Z1 (f := 13) rfl ?_); refine ZQ (some 70) rfl rfl Try.func13 (by kernel_rfl) rfl #[.slice A0 l0.length c0,.int .i64 a1,.int .i64 t318] rfl (by (try simp only [List.map_toArray,List.map_cons,List.map_nil]); first | done | rfl | (simp only [List.length_drop,List.length_take]; rfl)) ?_; (with_reducible refine (ZX.calls kj25 _ _ l0 a1 t318 t320 t321 _ ?side1 ?side2 A30.out).mono ?_); (case side1 => repeat (first | exact (Kd.ZO HR0.out HB.out) | (with_reducible refine Kd.ZA ?_ _) | (with_reducible refine Kd.Z9 ?_ _) | (with_reducible refine Kd.ZI ?_))); (case side2 => exact HC0.out); rintro e w34 ⟨rfl,hb⟩; refine ⟨_,rfl,?_⟩; have n0_ := Zc.mk (Z3 (by repeat (first | (with_reducible first | exact HB.out | apply Zd | apply Za | apply Zb) | exact HB.out)) hb); clear HB; have HB := n0_; clear n0_; (try clear hb); (try clear hb2); (try clear hk); (try clear hi)))
                    go_ret; exact ⟨by first | rfl | (simp [Zv,Zu] <;> rfl) | (simp [*,Zv,Zu] <;> rfl),by repeat (first | (with_reducible first | exact HB.out | apply Zd | apply Za | apply Zb) | exact HB.out)⟩
                · rw [if_neg c31] at H
                  have c31b0 : (t321 == 0) = false := beq_eq_false_iff_ne.mpr c31; have c31b1 : (t321 != 0) = true := bne_iff_ne.mpr c31; obtain rfl := Option.some.inj H
                  go_wp2_with (first | ((with_reducible refine Z1 (f := 13) rfl ?_); refine ZQ (some 70) rfl rfl Try.func13 (by kernel_rfl) rfl #[.slice A0 l0.length c0,.int .i64 a1,.int .i64 t318] rfl (by (try simp only [List.map_toArray,List.map_cons,List.map_nil]); first | done | rfl | (simp only [List.length_drop,List.length_take]; rfl)) ?_; (with_reducible refine (ZX.calls kj25 _ _ l0 a1 t318 t320 t321 _ ?side1 ?side2 A30.out).mono ?_); (case side1 => repeat (first | exact (Kd.ZO HR0.out HB.out) | (with_reducible refine Kd.ZA ?_ _) | (with_reducible refine Kd.Z9 ?_ _) | (with_reducible refine Kd.ZI ?_))); (case side2 => exact HC0.out); rintro e w35 ⟨rfl,hb⟩; refine ⟨_,rfl,?_⟩; have n0_ := Zc.mk (Z3 (by repeat (first | (with_reducible first | exact HB.out | apply Zd | apply Za | apply Zb) | exact HB.out)) hb); clear HB; have HB := n0_; clear n0_; (try clear hb); (try clear hb2); (try clear hk); (try clear hi)))
                  go_ret; exact ⟨by first | rfl | (simp [Zv,Zu] <;> rfl) | (simp [*,Zv,Zu] <;> rfl),by repeat (first | (with_reducible first | exact HB.out | apply Zd | apply Za | apply Zb) | exact HB.out)⟩
          · rw [if_neg c24] at H
            have c24b0 : (t313 == 0) = false := beq_eq_false_iff_ne.mpr c24; have c24b1 : (t313 != 0) = true := bne_iff_ne.mpr c24
            (first | rw [c24b0] | (simp only [i64_w,i32_w]; rw [c24b0]) | skip)
            have H' := Zc.mk H; clear H
            go_wp2
            go_meet
            case rel => exact ⟨_,H',⟨by have := HJ11.out; first | omega | exact Nat.le_refl _⟩,⟨by repeat (first | (with_reducible first | exact HB.out | apply Zd | apply Za | apply Zb) | exact HB.out)⟩⟩
         case rest =>
          clear HC23
          (try clear c1); (try clear c2); (try clear p2); (try clear c3); (try clear c6); (try clear c8); (try clear c9); (try clear c10); (try clear c13); (try clear c16); (try clear c16b0); (try clear c16b1); (try clear c17); (try clear c17b0); (try clear c17b1); (try clear c22); (try clear c24); (try clear c24b0); (try clear c24b1); (try clear c26); (try clear c28); (try clear c28b0); (try clear c28b1); (try clear c29); (try clear c31); (try clear c31b0); (try clear c31b1); (try clear c32); (try clear c32b0); (try clear c32b1); (try clear p2)
          obtain ⟨kq,HA,HJ22,HB⟩ := hcut
          cases kq with
          | zero => exact absurd HA.out (by simp [Zj.j2])
          | succ kj22 =>
           have H := HA.out; clear HA; simp only [Zj.j2] at H; replace H := Option.bind_eq_some_iff.mp H; obtain ⟨⟨t322,t323⟩,A360,H⟩ := H; replace H : ((ZY.f kj22 l0 a1 a3).bind fun bt324 => (if t322 = bt324.1 then (Zj.j3 kj22 l0 a2 (t323 != bt324.2)) else (Zj.j3 kj22 l0 a2 true))) = some r := H; have A36 := Zc.mk A360; clear A360; replace H := Option.bind_eq_some_iff.mp H; obtain ⟨⟨t324,t325⟩,A370,H⟩ := H; replace H : (if t322 = t324 then (Zj.j3 kj22 l0 a2 (t323 != t325)) else (Zj.j3 kj22 l0 a2 true)) = some r := H; have A37 := Zc.mk A370; clear A370; have HC38 := Zc.mk H; clear H
           go_upto_region 18 with (first | ((with_reducible refine Z1 (f := 26) rfl ?_); refine ZQ (some 84) rfl rfl Try.func26 (by kernel_rfl) rfl #[.slice A0 l0.length c0,.int .i64 a1,.int .i64 a3] rfl (by (try simp only [List.map_toArray,List.map_cons,List.map_nil]); first | done | rfl | (simp only [List.length_drop,List.length_take]; rfl)) ?_; (with_reducible refine (Xu.calls kj22 _ _ l0 a1 a3 t322 t323 _ ?side1 ?side2 A36.out).mono ?_); (case side1 => repeat (first | exact (Kd.ZO HR0.out HB.out) | (with_reducible refine Kd.ZA ?_ _) | (with_reducible refine Kd.Z9 ?_ _) | (with_reducible refine Kd.ZI ?_))); (case side2 => exact HC0.out); rintro e w39 ⟨rfl,hb⟩; refine ⟨_,rfl,?_⟩; have n0_ := Zc.mk (Z3 (by repeat (first | (with_reducible first | exact HB.out | apply Zd | apply Za | apply Zb) | exact HB.out)) hb); clear HB; have HB := n0_; clear n0_; (try clear hb); (try clear hb2); (try clear hk); (try clear hi)) | ((with_reducible refine Z1 (f := 27) rfl ?_); refine ZQ (some 91) rfl rfl Try.func27 (by kernel_rfl) rfl #[.slice A0 l0.length c0,.int .i64 a1,.int .i64 a3] rfl (by (try simp only [List.map_toArray,List.map_cons,List.map_nil]); first | done | rfl | (simp only [List.length_drop,List.length_take]; rfl)) ?_; (with_reducible refine (ZY.calls kj22 _ _ l0 a1 a3 t324 t325 _ ?side1 ?side2 A37.out).mono ?_); (case side1 => repeat (first | exact (Kd.ZO HR0.out HB.out) | (with_reducible refine Kd.ZA ?_ _) | (with_reducible refine Kd.Z9 ?_ _) | (with_reducible refine Kd.ZI ?_))); (case side2 => exact HC0.out); rintro e w40 ⟨rfl,hb⟩; refine ⟨_,rfl,?_⟩; have n0_ := Zc.mk (Z3 (by repeat (first | (with_reducible first | exact HB.out | apply Zd | apply Za | apply Zb) | exact HB.out)) hb); clear HB; have HB := n0_; clear n0_; (try clear hb); (try clear hb2); (try clear hk); (try clear hi)))
           (try simp only [Act.put,YD,YE,YF])
           go_cut [101] (fun v101 wc => ∃ (kq : Nat) (x101_37 : Bool),v101 = .bool x101_37 ∧ Zc (Zj.j3 kq l0 a2 x101_37 = some r) ∧ Zc (kq ≤ kj22) ∧ Zc (Below w.heap.size w wc))
           case first =>
            have H := HC38.out; clear HC38
            by_cases c41 : t322 = t324
            · rw [if_pos c41] at H
              have c41b0 : (t322 == t324) = true := beq_iff_eq.mpr c41; have c41b1 : (t322 != t324) = false := bne_eq_false_iff_eq.mpr c41; clear c41
              (first | rw [c41b0] | (simp only [i64_w,i32_w]; rw [c41b0]) | skip)
              have H' := Zc.mk H; clear H
              go_wp2
              go_meet
              case rel => exact ⟨_,((t323 != t325)),(by first | rfl | (simp; done) | (simp [*]; done)),H',⟨by have := HJ11.out; have := HJ22.out; first | omega | exact Nat.le_refl _⟩,⟨by repeat (first | (with_reducible first | exact HB.out | apply Zd | apply Za | apply Zb) | exact HB.out)⟩⟩
            · rw [if_neg c41] at H
              have c41b0 : (t322 == t324) = false := beq_eq_false_iff_ne.mpr c41; have c41b1 : (t322 != t324) = true := bne_iff_ne.mpr c41
              (first | rw [c41b0] | (simp only [i64_w,i32_w]; rw [c41b0]) | skip)
              have H' := Zc.mk H; clear H
              go_wp2
              go_meet
              case rel => exact ⟨_,(true),(by first | rfl | (simp; done) | (simp [*]; done)),H',⟨by have := HJ11.out; have := HJ22.out; first | omega | exact Nat.le_refl _⟩,⟨by repeat (first | (with_reducible first | exact HB.out | apply Zd | apply Za | apply Zb) | exact HB.out)⟩⟩
           case rest =>
            clear HC38
            (try clear c1); (try clear c2); (try clear p2); (try clear c3); (try clear c4); (try clear c6); (try clear c8); (try clear c9); (try clear c10); (try clear c13); (try clear c16); (try clear c16b0); (try clear c16b1); (try clear c17); (try clear c17b0); (try clear c17b1); (try clear c22); (try clear c24); (try clear c24b0); (try clear c24b1); (try clear c26); (try clear c27); (try clear c28); (try clear c28b0); (try clear c28b1); (try clear c29); (try clear c31); (try clear c31b0); (try clear c31b1); (try clear c32); (try clear c32b0); (try clear c32b1); (try clear c41); (try clear c41b0); (try clear c41b1); (try clear p2)
            obtain ⟨kq,x101_37,rfl,HA,HJ37,HB⟩ := hcut
            cases kq with
            | zero => exact absurd HA.out (by simp [Zj.j3])
            | succ kj37 =>
             have H := HA.out; clear HA; simp only [Zj.j3] at H
             by_cases c42 : x101_37 = true
             · subst c42
               have H1 : (some false) = some r := by rw [if_pos rfl] at H; exact H
               clear H; have H := H1; clear H1; obtain rfl := Option.some.inj H
               go_wp2
               go_ret; exact ⟨by first | rfl | (simp [Zv,Zu] <;> rfl) | (simp [*,Zv,Zu] <;> rfl),by repeat (first | (with_reducible first | exact HB.out | apply Zd | apply Za | apply Zb) | exact HB.out)⟩
             · replace c42 := Bool.eq_false_iff.mpr c42
               subst c42
               have H1 : ((Xp.f kj37 l0 a2).bind fun bt326 => ((ZS.f kj37 l0 a2).bind fun bt328 => (if bt326.1 = bt328.1 then (some (bt326.2 == bt328.2)) else (some false)))) = some r := by rw [if_neg (show ¬ (false = true) by decide)] at H; exact H
               clear H; have H := H1; clear H1; replace H := Option.bind_eq_some_iff.mp H; obtain ⟨⟨t326,t327⟩,A430,H⟩ := H; replace H : ((ZS.f kj37 l0 a2).bind fun bt328 => (if t326 = bt328.1 then (some (t327 == bt328.2)) else (some false))) = some r := H; have A43 := Zc.mk A430; clear A430; replace H := Option.bind_eq_some_iff.mp H; obtain ⟨⟨t328,t329⟩,A440,H⟩ := H; replace H : (if t326 = t328 then (some (t327 == t329)) else (some false)) = some r := H; have A44 := Zc.mk A440; clear A440
               by_cases c45 : t326 = t328
               · rw [if_pos c45] at H
                 have c45b0 : (t326 == t328) = true := beq_iff_eq.mpr c45; have c45b1 : (t326 != t328) = false := bne_eq_false_iff_eq.mpr c45; clear c45; obtain rfl := Option.some.inj H
                 go_wp2_with (first | ((with_reducible refine Z1 (f := 12) rfl ?_); refine ZQ (some 105) rfl rfl Try.func12 (by kernel_rfl) rfl #[.slice A0 l0.length c0,.int .i64 a2] rfl (by (try simp only [List.map_toArray,List.map_cons,List.map_nil]); first | done | rfl | (simp only [List.length_drop,List.length_take]; rfl)) ?_; (with_reducible refine (Xp.calls kj37 _ _ l0 a2 t326 t327 _ ?side1 ?side2 A43.out).mono ?_); (case side1 => repeat (first | exact (Kd.ZO HR0.out HB.out) | (with_reducible refine Kd.ZA ?_ _) | (with_reducible refine Kd.Z9 ?_ _) | (with_reducible refine Kd.ZI ?_))); (case side2 => exact HC0.out); rintro e w46 ⟨rfl,hb⟩; refine ⟨_,rfl,?_⟩; have n0_ := Zc.mk (Z3 (by repeat (first | (with_reducible first | exact HB.out | apply Zd | apply Za | apply Zb) | exact HB.out)) hb); clear HB; have HB := n0_; clear n0_; (try clear hb); (try clear hb2); (try clear hk); (try clear hi)) | ((with_reducible refine Z1 (f := 28) rfl ?_); refine ZQ (some 111) rfl rfl Try.func28 (by kernel_rfl) rfl #[.slice A0 l0.length c0,.int .i64 a2] rfl (by (try simp only [List.map_toArray,List.map_cons,List.map_nil]); first | done | rfl | (simp only [List.length_drop,List.length_take]; rfl)) ?_; (with_reducible refine (ZS.calls kj37 _ _ l0 a2 t328 t329 _ ?side1 ?side2 A44.out).mono ?_); (case side1 => repeat (first | exact (Kd.ZO HR0.out HB.out) | (with_reducible refine Kd.ZA ?_ _) | (with_reducible refine Kd.Z9 ?_ _) | (with_reducible refine Kd.ZI ?_))); (case side2 => exact HC0.out); rintro e w47 ⟨rfl,hb⟩; refine ⟨_,rfl,?_⟩; have n0_ := Zc.mk (Z3 (by repeat (first | (with_reducible first | exact HB.out | apply Zd | apply Za | apply Zb) | exact HB.out)) hb); clear HB; have HB := n0_; clear n0_; (try clear hb); (try clear hb2); (try clear hk); (try clear hi)))
                 go_ret; exact ⟨by first | rfl | (simp [Zv,Zu] <;> rfl) | (simp [*,Zv,Zu] <;> rfl),by repeat (first | (with_reducible first | exact HB.out | apply Zd | apply Za | apply Zb) | exact HB.out)⟩
               · rw [if_neg c45] at H
                 have c45b0 : (t326 == t328) = false := beq_eq_false_iff_ne.mpr c45; have c45b1 : (t326 != t328) = true := bne_iff_ne.mpr c45; obtain rfl := Option.some.inj H
                 go_wp2_with (first | ((with_reducible refine Z1 (f := 12) rfl ?_); refine ZQ (some 105) rfl rfl Try.func12 (by kernel_rfl) rfl #[.slice A0 l0.length c0,.int .i64 a2] rfl (by (try simp only [List.map_toArray,List.map_cons,List.map_nil]); first | done | rfl | (simp only [List.length_drop,List.length_take]; rfl)) ?_; (with_reducible refine (Xp.calls kj37 _ _ l0 a2 t326 t327 _ ?side1 ?side2 A43.out).mono ?_); (case side1 => repeat (first | exact (Kd.ZO HR0.out HB.out) | (with_reducible refine Kd.ZA ?_ _) | (with_reducible refine Kd.Z9 ?_ _) | (with_reducible refine Kd.ZI ?_))); (case side2 => exact HC0.out); rintro e w48 ⟨rfl,hb⟩; refine ⟨_,rfl,?_⟩; have n0_ := Zc.mk (Z3 (by repeat (first | (with_reducible first | exact HB.out | apply Zd | apply Za | apply Zb) | exact HB.out)) hb); clear HB; have HB := n0_; clear n0_; (try clear hb); (try clear hb2); (try clear hk); (try clear hi)) | ((with_reducible refine Z1 (f := 28) rfl ?_); refine ZQ (some 111) rfl rfl Try.func28 (by kernel_rfl) rfl #[.slice A0 l0.length c0,.int .i64 a2] rfl (by (try simp only [List.map_toArray,List.map_cons,List.map_nil]); first | done | rfl | (simp only [List.length_drop,List.length_take]; rfl)) ?_; (with_reducible refine (ZS.calls kj37 _ _ l0 a2 t328 t329 _ ?side1 ?side2 A44.out).mono ?_); (case side1 => repeat (first | exact (Kd.ZO HR0.out HB.out) | (with_reducible refine Kd.ZA ?_ _) | (with_reducible refine Kd.Z9 ?_ _) | (with_reducible refine Kd.ZI ?_))); (case side2 => exact HC0.out); rintro e w49 ⟨rfl,hb⟩; refine ⟨_,rfl,?_⟩; have n0_ := Zc.mk (Z3 (by repeat (first | (with_reducible first | exact HB.out | apply Zd | apply Za | apply Zb) | exact HB.out)) hb); clear HB; have HB := n0_; clear n0_; (try clear hb); (try clear hb2); (try clear hk); (try clear hi)))
                 go_ret; exact ⟨by first | rfl | (simp [Zv,Zu] <;> rfl) | (simp [*,Zv,Zu] <;> rfl),by repeat (first | (with_reducible first | exact HB.out | apply Zd | apply Za | apply Zb) | exact HB.out)⟩
 · replace c6 := Bool.eq_false_iff.mpr c6
   subst c6
   have H1 : (some false) = some r := by rw [if_neg (show ¬ (false = true) by decide)] at H; exact H
   clear H; have H := H1; clear H1; obtain rfl := Option.some.inj H
   go_enter Try.func6,Try.ntmps6
   go_wp2_with (first | ((with_reducible refine Z1 (f := 9) rfl ?_); refine ZQ (some 17) rfl rfl Try.func9 (by kernel_rfl) rfl #[] rfl (by (try simp only [List.map_toArray,List.map_cons,List.map_nil]); first | done | rfl | (simp only [List.length_drop,List.length_take]; rfl)) ?_; (with_reducible refine (ZE.calls k  false _ A5.out).mono ?_); rintro e w50 ⟨rfl,hb⟩; refine ⟨_,rfl,?_⟩; have n0_ := Zc.mk (Z3 (by repeat (first | (with_reducible first | exact HB.out | apply Zd | apply Za | apply Zb) | exact HB.out)) hb); clear HB; have HB := n0_; clear n0_; (try clear hb); (try clear hb2); (try clear hk); (try clear hi)))
   go_ret; exact ⟨by first | rfl | (simp [Zv,Zu] <;> rfl) | (simp [*,Zv,Zu] <;> rfl),by repeat (first | (with_reducible first | exact HB.out | apply Zd | apply Za | apply Zb) | exact HB.out)⟩
end Go.Proofs.Ytomlfbmfdoallaa.PA

namespace Go.Proofs.Ytomlfbmfdoallaa.Pure
open Go.RowKit Go.Proofs.Ytomlfbmfdoallaa.PA Go.Proofs.YtomlfbmfdoallaaW.PrintWords Go.Proofs.YtomlfbmfdoallaaW.PrintLast
set_option linter.unusedVariables false
set_option linter.unusedSimpArgs false
theorem upb {α : Type} {g : Nat → Option α} (hm : ∀ k,LeO (g k) (g (k + 1))) {b : Nat} {r : α} (h : g b = some r) : ∀ k,b ≤ k → g k = some r := by
 intro k hk
 obtain ⟨d,rfl⟩ : ∃ d,k = b + d := ⟨k - b,by omega⟩
 clear hk
 induction d with
 | zero => exact h
 | succ d ih => exact hm _ _ ih
def tm (n : Int) : Bool := decide (0 ≤ n) && decide (n ≤ 1000000000)
theorem XK (n : Int) : tm n = true ↔ 0 ≤ n ∧ n ≤ 1000000000 := by simp [tm]
theorem Ye (n : Int) : inTime n = tm n := rfl
theorem QT (n : Int) : Z8.f n = some (tm n) := by
 unfold Z8.f tm
 by_cases h : n ≥ 0
 · rw [if_pos h]; simp [show 0 ≤ n from h]
 · rw [if_neg h]; simp [show ¬ 0 ≤ n from h]
section
variable {l : List S27} (hl : l.length ≤ 100) {k : Nat} (hk : 250 ≤ k)
include hl hk
theorem QL : Zt.f k l = some (mapOkB l) := upb (g := fun k => Zt.f k l) (fun k => Zt.mono l k) (v_eq l hl) k (by omega)
theorem Yd : Zh.f k l = some (mapOkB l) := upb (g := fun k => Zh.f k l) (fun k => Zh.mono l k) (refv_eq l hl) k (by omega)
end
theorem awake_ok : ZE.f 200 = some true := by decide +kernel
end Go.Proofs.Ytomlfbmfdoallaa.Pure

namespace Go.Proofs.Ytomlfbmfdoallaa.Pure
open Go.RowKit Go.Proofs.Ytomlfbmfdoallaa.PA Go.Proofs.YtomlfbmfdoallaaW.PrintWords Go.Proofs.YtomlfbmfdoallaaW.PrintLast
set_option linter.unusedVariables false
set_option linter.unusedSimpArgs false
theorem refvalue_loop (l : List S56) (hc : curveFromB l = true) (hl : l.length ≤ 200) (x : Int) (hx1 : x ≤ 1000000000) : ∀ (d k i : Nat),l.length - i = d + 1 → d + 3 < k → (∀ h : i < l.length,l[i].f0 ≤ x) → curveFromB (l.drop i) = true →
 Z2.l0 k l x (i : Int) = some (vfrom (l.drop i) x) := by
 intro d
 induction d with
 | zero =>
  intro k i hd hk hx hcd
  obtain ⟨k,rfl⟩ : ∃ m,k = m + 1 + 1 + 1 := ⟨k - 3,by omega⟩
  have hi : i < l.length := by omega
  have hw : wrap64 ((i : Int) + 1) = ((i + 1 : Nat) : Int) := by rw [w64 (by omega) (by omega)]; omega
  have hw2 : wrap64 ((l.length : Int) - 1) = (i : Int) := by rw [w64 (by omega) (by omega)]; omega
  rw [Z2.l0.eq_2,hw,if_neg (by omega),Z2.j1.eq_2,hw2,if_pos rfl,Z2.j2.eq_2,if_pos rfl,if_pos (by omega),if_pos (by omega),rd56 l i hi]; rw [List.drop_eq_getElem_cons hi,List.drop_eq_nil_of_le (by omega)]; rfl
 | succ d ih =>
  intro k i hd hk hx hcd
  obtain ⟨k,rfl⟩ : ∃ m,k = m + 1 + 1 + 1 := ⟨k - 3,by omega⟩
  have hi : i < l.length := by omega
  have hi2 : i + 1 < l.length := by omega
  have hx := hx hi
  have hw : wrap64 ((i : Int) + 1) = ((i + 1 : Nat) : Int) := by rw [w64 (by omega) (by omega)]; omega
  have hcd' := hcd; rw [List.drop_eq_getElem_cons hi,List.drop_eq_getElem_cons hi2] at hcd'; obtain ⟨g1,g2,g3,g4⟩ := XX hcd'; have o1 := (Qs _).1 g1; have o2 := (Qs _).1 (XU g4); rw [← List.drop_eq_getElem_cons hi2] at g4; rw [Z2.l0.eq_2,hw,if_pos (by omega),if_pos (by omega),rd56 l (i + 1) hi2]
  by_cases hcmp : l[i + 1].f0 ≤ x
  · rw [if_pos hcmp,ih (k + 1 + 1) (i + 1) (by omega) (by omega) (fun _ => hcmp) g4]
    conv => rhs; rw [List.drop_eq_getElem_cons hi,List.drop_eq_getElem_cons hi2]
    rw [List.drop_eq_getElem_cons hi2]; simp [vfrom,hcmp]
  · have hw2 : wrap64 ((l.length : Int) - 1) = (l.length : Int) - 1 := w64 (by omega) (by omega)
    rw [if_neg hcmp,Z2.j1.eq_2,hw2,if_neg (by omega),if_pos (by omega),if_pos (by omega),rd56 l i hi,Z2.j2.eq_2]
    conv => rhs; rw [List.drop_eq_getElem_cons hi,List.drop_eq_getElem_cons hi2]
    simp only [vfrom,if_neg hcmp]
    have hseg : Seg l[i] l[i + 1] x := ⟨o1.1,hx,by omega,o2.2.1,o1.2.2.1,o1.2.2.2.1,o2.2.2.1,o2.2.2.2.1,o1.2.2.2.2.1,o1.2.2.2.2.2,g3⟩
    have hsb := QY hseg
    by_cases h0 : l[i].f2 = 0
    · rw [if_pos (by simp [h0]),if_pos (by omega),if_pos (by omega),rd56 l i hi]
      simp [shp,h0]
    · rw [if_neg (by simp [h0]),if_pos (by omega),if_pos (by omega),hw,if_pos (by omega),if_pos (by omega),rd56 l i hi,rd56 l (i + 1) hi2]
      rw [w64 (x := l[i + 1].f1 - l[i].f1) (by omega) (by omega),w64 (x := x - l[i].f0) (by omega) (by omega),w64 (x := l[i + 1].f0 - l[i].f0) (by omega) (by omega)]; unfold shp at hsb ⊢; rw [if_neg h0] at hsb ⊢
      by_cases h1 : l[i].f2 = 1
      · rw [if_pos h1] at hsb ⊢
        rw [if_pos h1]; have x1 := Int.mul_le_mul_of_nonneg_right (show l[i + 1].f1 - l[i].f1 ≤ 16777214 by omega) (show 0 ≤ x - l[i].f0 by omega); have x2 := Int.mul_le_mul_of_nonneg_right (show -16777214 ≤ l[i + 1].f1 - l[i].f1 by omega) (show 0 ≤ x - l[i].f0 by omega); rw [w64 (x := (l[i + 1].f1 - l[i].f1) * (x - l[i].f0)) (by omega) (by omega),XI _ _ (by omega) (by omega) (by omega) (by omega)]; simp only [Option.bind_some]; rw [w64 (by omega) (by omega)]
      · rw [if_neg h1] at hsb ⊢
        rw [if_neg h1]; obtain ⟨e1,e2,e3,e4,e5,e6⟩ := Ql (l[i + 1].f1 - l[i].f1) (x - l[i].f0) (l[i + 1].f0 - l[i].f0) (by omega) (by omega) (g3 (by omega)) (by omega) (by omega); rw [e1,e2,XI _ _ (by omega) (by omega) (by omega) (by omega)]; simp only [Option.bind_some]; rw [w64 (by omega) (by omega)]
theorem refvalue_eq (l : List S56) (hc : curveB l = true) (x : Int) (hx1 : x ≤ 1000000000) (k : Nat) (hk : 210 ≤ k) : Z2.f k l x = some (valAt l x) := by
 simp only [curveB,Bool.and_eq_true,decide_eq_true_eq] at hc; obtain ⟨⟨n1,n2⟩,hcv⟩ := hc; unfold Z2.f valAt; rw [if_pos (by omega)]
 by_cases hlt : x < (Zg l 0).f0
 · rw [if_pos hlt,if_pos hlt]
 · rw [if_neg hlt,if_neg hlt]
   have := refvalue_loop l hcv (by omega) x hx1 (l.length - 1) k 0 (by omega) (by omega) (fun h => by have := rd56 l 0 h; rw [show ((0 : Nat) : Int) = 0 from rfl] at this; rw [← this]; omega) (by simpa using hcv); rw [List.drop_zero] at this; exact this
def cnt (l : List S27) (s y : Int) : Int := if s ≤ y then bs (fun n => decide (fr l s n ≤ y)) 0 1000000000 + 1 else 0
theorem Yl (l : List S27) (s : Int) (hok : MapOk l) : fr l s 0 = s := by
 obtain ⟨h1,h2,h3,h4⟩ := hok
 match l,h1,h3,h4 with
 | [t],_,h3,_ =>
  have := h3 t rfl; show s + rnd ((0 - t.f0) * t.f1) 65536 = s; rw [this,Int.sub_self,Int.zero_mul,show rnd 0 65536 = 0 by decide]; omega
 | t :: t2 :: r,_,h3,h4 =>
  have ht := h3 t rfl; have h23 := h4.2.2.2.2.2.2.1; simp only [fr,if_neg (show ¬ t2.f0 ≤ 0 by omega)]
  have hz : (crvOf t (some t2)).frames (0 - t.f0) = 0 := by
   rw [ht,Int.sub_self]; unfold crvOf
   by_cases hc : t.f2 = 1
   · simp only [hc,if_true,Crv.frames]
     have : 2 * (t2.f0 - t.f0) * 0 * t.f1 + (t2.f1 - t.f1) * 0 * (0 - 1) = 0 := by simp
     rw [this]; unfold rnd; rw [if_neg (by omega)]; exact Int.ediv_eq_zero_of_lt (by omega) (by omega)
   · simp only [hc,if_false,Crv.frames,Int.zero_mul]
     decide
  rw [hz]; omega
theorem XL (l : List S27) (s y : Int) (hok : MapOk l) : 0 ≤ cnt l s y ∧ cnt l s y ≤ 1000000001 ∧ ∀ t,0 ≤ t → t ≤ 1000000000 → (fr l s t ≤ y ↔ t < cnt l s y) := by
 have hz := Yl l s hok; unfold cnt
 by_cases h : s ≤ y
 · rw [if_pos h]
   obtain ⟨b1,b2,b3,b4⟩ := bs_spec (fun n => decide (fr l s n ≤ y)) 0 1000000000 (by omega) (fun u v hu huv hv' hp => by
    have := fr_le (s := s) hok hu huv hv'; simp only [decide_eq_true_eq] at hp ⊢
    omega) (by simp only [decide_eq_true_eq]; omega)
   simp only [decide_eq_true_eq] at b3; refine ⟨by omega,by omega,fun t h0 h1 => ⟨fun hf => ?_,fun hf => ?_⟩⟩
   · have := b4 t h0 h1 (by simpa using hf)
     omega
   · have := fr_le (s := s) hok h0 (show t ≤ bs (fun n => decide (fr l s n ≤ y)) 0 1000000000 by omega) b2
     omega
 · rw [if_neg h]
   refine ⟨by omega,by omega,fun t h0 h1 => ⟨fun hf => ?_,fun hf => by omega⟩⟩; have := fr_le (s := s) hok (Int.le_refl 0) h0 h1; omega
theorem Q1 (l : List S27) (s : Int) (hok : MapOk l) {y z : Int} (h : y ≤ z) : cnt l s y ≤ cnt l s z := by
 obtain ⟨a1,a2,a3⟩ := XL l s y hok; obtain ⟨b1,b2,b3⟩ := XL l s z hok
 by_cases h0 : cnt l s y = 0
 · omega
 · have hf := (a3 (cnt l s y - 1) (by omega) (by omega)).2 (by omega)
   have := (b3 (cnt l s y - 1) (by omega) (by omega)).1 (by omega); omega
def rng : Nat → Int → List Int
 | 0,_ => []
 | d + 1,t => t :: rng d (t + 1)
theorem XR : ∀ (d : Nat) (t : Int),(rng d t).length = d
 | 0,_ => rfl
 | d + 1,t => by simp [rng,XR d]
theorem Yk : ∀ (a b : Nat) (t : Int),rng (a + b) t = rng a t ++ rng b (t + a)
 | 0,b,t => by simp [rng]
 | a + 1,b,t => by
  rw [show a + 1 + b = (a + b) + 1 by omega]; simp only [rng,Yk a b (t + 1),List.cons_append]; rw [show t + 1 + (a : Int) = t + ((a + 1 : Nat) : Int) by omega]
section
variable {l : List S27} (hok : MapOk l) {s fm e : Int} (hs0 : 0 ≤ s) (hs1 : s ≤ 1000000000) (hf0 : 0 ≤ fm) (hf1 : fm ≤ 1000000000)
include hok hs0 hs1 hf0 hf1
theorem pf_loop : ∀ (m k : Nat) (t : Int) (x8 x9 : List Int),x8.length + m = 4096 → x9.length = x8.length → m + 1 < k → 0 ≤ t → t ≤ 1000000001 → t ≤ cnt l s e →
 Z4.l0 k l s fm x8 x9 e t = some (if x8.length + (cnt l s e - t).toNat ≤ 4096 then (x8 ++ rng (cnt l s e - t).toNat t,x9 ++ (rng (cnt l s e - t).toNat t).map (fun u => fr l s u - fm),0) else ([],[],4)) := by
 have hv : mapOkB l = true := (X9 l).2 hok; obtain ⟨c1,c2,c3⟩ := XL l s e hok; intro m
 induction m with
 | zero =>
  intro k t x8 x9 h8 h9 hk t0 t1 t2
  obtain ⟨k,rfl⟩ : ∃ q,k = q + 1 := ⟨k - 1,by omega⟩
  rw [Z4.l0.eq_2]
  by_cases ht : t ≤ 1000000000
  · rw [if_pos ht]
    have hfe : Xj.f l s t = some (fr l s t) := by unfold Xj.f; rw [if_pos ⟨hv,hs0,hs1,t0,ht⟩]
    rw [hfe]; simp only [Option.bind_some]; have := c3 t t0 ht
    by_cases hc : fr l s t > e
    · rw [if_pos hc]
      have e0 : (cnt l s e - t).toNat = 0 := by omega
      rw [e0,if_pos (by omega)]; simp [rng]
    · rw [if_neg hc,if_pos (by omega),if_neg (by omega)]
  · rw [if_neg ht]
    have e0 : (cnt l s e - t).toNat = 0 := by omega
    rw [e0,if_pos (by omega)]; simp [rng]
 | succ m ih =>
  intro k t x8 x9 h8 h9 hk t0 t1 t2
  obtain ⟨k,rfl⟩ : ∃ q,k = q + 1 := ⟨k - 1,by omega⟩
  rw [Z4.l0.eq_2]
  by_cases ht : t ≤ 1000000000
  · rw [if_pos ht]
    have hfe : Xj.f l s t = some (fr l s t) := by unfold Xj.f; rw [if_pos ⟨hv,hs0,hs1,t0,ht⟩]
    have hfb := (Qc l hok s t hs0 hs1 t0 ht 300 (by omega)).2; rw [hfe]; simp only [Option.bind_some]; have := c3 t t0 ht
    by_cases hc : fr l s t > e
    · rw [if_pos hc]
      have e0 : (cnt l s e - t).toNat = 0 := by omega
      rw [e0,if_pos (by omega)]; simp [rng]
    · rw [if_neg hc,if_neg (by omega),if_pos (by omega),if_pos (by omega),w64 (x := fr l s t - fm) (by omega) (by omega),w64 (x := t + 1) (by omega) (by omega)]
      rw [ih k (t + 1) (x8 ++ [t]) (x9 ++ [fr l s t - fm]) (by simp; omega) (by simp; omega) (by omega) (by omega) (by omega) (by omega)]
      have e1 : (cnt l s e - t).toNat = (cnt l s e - (t + 1)).toNat + 1 := by omega
      rw [e1]
      have e2 : (x8 ++ [t]).length + (cnt l s e - (t + 1)).toNat = x8.length + ((cnt l s e - (t + 1)).toNat + 1) := by simp; omega
      rw [e2]; simp [rng]
  · rw [if_neg ht]
    have e0 : (cnt l s e - t).toNat = 0 := by omega
    rw [e0,if_pos (by omega)]; simp [rng]
theorem rf_loop (len : Int) (hl0 : 0 ≤ len) (hl1 : len ≤ 4096) (he : e = mn (fm + len - 1) 1000000000) : ∀ (m k : Nat) (t : Int) (x8 x9 : List Int),x8.length + m = 4096 → x9.length = x8.length → 2 * m + 260 < k → 0 ≤ t → t ≤ 1000000001 → t ≤ cnt l s e →
 Zi.l0 k l s fm len t x8 x9 = some (if x8.length + (cnt l s e - t).toNat ≤ 4096 then (x8 ++ rng (cnt l s e - t).toNat t,x9 ++ (rng (cnt l s e - t).toNat t).map (fun u => fr l s u - fm),0) else ([],[],4)) := by
 have hv : mapOkB l = true := (X9 l).2 hok; obtain ⟨c1,c2,c3⟩ := XL l s e hok
 have hend : ∀ F : Int,(F > e ↔ (F ≥ fm + len ∨ F > 1000000000)) := fun F => by rw [he]; unfold mn; split <;> omega
 have hj : ∀ (k : Nat) (t F : Int) (x8 x9 : List Int),Zi.j3 (k + 1) l s fm len t x8 x9 F true = some (x8,x9,0) := fun k t F x8 x9 => by rw [Zi.j3.eq_2,if_pos rfl]
 have turn : ∀ (k : Nat) (t : Int) (x8 x9 : List Int),250 < k → 0 ≤ t → t ≤ 1000000000 → Zi.l0 (k + 1) l s fm len t x8 x9 = if fr l s t > e then some (x8,x9,0) else Zi.j3 k l s fm len t x8 x9 (fr l s t) false := by
  intro k t x8 x9 hk t0 t1
  obtain ⟨k,rfl⟩ : ∃ q,k = q + 1 := ⟨k - 1,by omega⟩
  rw [Zi.l0.eq_2,if_pos t1,(Qc l hok s t hs0 hs1 t0 t1 (k + 1) (by omega)).1]; simp only [Option.bind_some]; rw [w64 (x := fm + len) (by omega) (by omega)]
  by_cases hc : fr l s t > e
  · rw [if_pos hc]
    by_cases h1 : fr l s t ≥ fm + len
    · rw [if_pos h1,hj]
    · rw [if_neg h1]
      have h2 : fr l s t > 1000000000 := by have := (hend _).1 hc; omega
      rw [show decide (fr l s t > 1000000000) = true by simpa using h2,hj]
  · rw [if_neg hc]
    have h1 : ¬ fr l s t ≥ fm + len := fun h => hc ((hend _).2 (.inl h))
    have h2 : ¬ fr l s t > 1000000000 := fun h => hc ((hend _).2 (.inr h))
    rw [if_neg h1,show decide (fr l s t > 1000000000) = false by simpa using h2]
 intro m
 induction m with
 | zero =>
  intro k t x8 x9 h8 h9 hk t0 t1 t2
  obtain ⟨k,rfl⟩ : ∃ q,k = q + 1 + 1 := ⟨k - 2,by omega⟩
  by_cases ht : t ≤ 1000000000
  · rw [turn (k + 1) t x8 x9 (by omega) t0 ht]
    have := c3 t t0 ht
    by_cases hc : fr l s t > e
    · rw [if_pos hc]
      have e0 : (cnt l s e - t).toNat = 0 := by omega
      rw [e0,if_pos (by omega)]; simp [rng]
    · rw [if_neg hc,Zi.j3.eq_2,if_neg (by simp),if_pos (by omega),if_neg (by omega)]
  · rw [Zi.l0.eq_2,if_neg ht]
    have e0 : (cnt l s e - t).toNat = 0 := by omega
    rw [e0,if_pos (by omega)]; simp [rng]
 | succ m ih =>
  intro k t x8 x9 h8 h9 hk t0 t1 t2
  obtain ⟨k,rfl⟩ : ∃ q,k = q + 1 + 1 := ⟨k - 2,by omega⟩
  by_cases ht : t ≤ 1000000000
  · rw [turn (k + 1) t x8 x9 (by omega) t0 ht]
    have hfb := (Qc l hok s t hs0 hs1 t0 ht 300 (by omega)).2; have := c3 t t0 ht
    by_cases hc : fr l s t > e
    · rw [if_pos hc]
      have e0 : (cnt l s e - t).toNat = 0 := by omega
      rw [e0,if_pos (by omega)]; simp [rng]
    · rw [if_neg hc,Zi.j3.eq_2,if_neg (by simp),if_neg (by omega),if_pos (by omega),if_pos (by omega),w64 (x := fr l s t - fm) (by omega) (by omega),w64 (x := t + 1) (by omega) (by omega)]
      rw [ih k (t + 1) (x8 ++ [t]) (x9 ++ [fr l s t - fm]) (by simp; omega) (by simp; omega) (by omega) (by omega) (by omega) (by omega)]
      have e1 : (cnt l s e - t).toNat = (cnt l s e - (t + 1)).toNat + 1 := by omega
      rw [e1]
      have e2 : (x8 ++ [t]).length + (cnt l s e - (t + 1)).toNat = x8.length + ((cnt l s e - (t + 1)).toNat + 1) := by simp; omega
      rw [e2]; simp [rng]
  · rw [Zi.l0.eq_2,if_neg ht]
    have e0 : (cnt l s e - t).toNat = 0 := by omega
    rw [e0,if_pos (by omega)]; simp [rng]
end
end Go.Proofs.Ytomlfbmfdoallaa.Pure

namespace Go.Proofs.Ytomlfbmfdoallaa.Pure
open Go.RowKit Go.Proofs.Ytomlfbmfdoallaa.PA Go.Proofs.YtomlfbmfdoallaaW.PrintWords Go.Proofs.YtomlfbmfdoallaaW.PrintLast
set_option linter.unusedVariables false
set_option linter.unusedSimpArgs false
def en (fm len : Int) : Int := mn (fm + len - 1) 1000000000
theorem en_le {fm a b : Int} (h : a ≤ b) : en fm a ≤ en fm b := by unfold en mn; split <;> split <;> omega
def FS (l : List S27) (s fm len : Int) : List Int × List Int × Int :=
 if mapOkB l = true then
  (if tm s = true ∧ tm fm = true ∧ s ≤ fm ∧ 0 ≤ len ∧ len ≤ 4096 then
   (if (cnt l s (en fm len) - cnt l s (fm - 1)).toNat ≤ 4096 then (rng (cnt l s (en fm len) - cnt l s (fm - 1)).toNat (cnt l s (fm - 1)),(rng (cnt l s (en fm len) - cnt l s (fm - 1)).toNat (cnt l s (fm - 1))).map (fun u => fr l s u - fm),0) else ([],[],4))
  else ([],[],7))
 else ([],[],1)
def valY (l : List S27) (p : List S56) (s y : Int) : Int := valAt p (bs (fun n => decide (fr l s n ≤ y)) 0 1000000000)
def RM (l : List S27) (p : List S56) (s fm len : Int) : List Int × Int :=
 if curveB p = true ∧ mapOkB l = true then
  (if tm s = true ∧ tm fm = true ∧ s ≤ fm ∧ 0 ≤ len ∧ len ≤ 4096 ∧ fm + len - 1 ≤ 1000000000 then ((rng len.toNat fm).map (valY l p s),0) else ([],7))
 else ([],1)
section
variable {l : List S27} (hl : l.length ≤ 100) {k : Nat} (hk : 10000 ≤ k)
include hl hk
theorem Qm (s fm len : Int) : Z4.f k l s fm len = some (FS l s fm len) := by
 obtain ⟨k,rfl⟩ : ∃ q,k = q + 1 + 1 := ⟨k - 2,by omega⟩
 unfold Z4.f ZP.f FS; rw [QL hl (by omega)]; simp only [Option.bind_some]
 cases hv : mapOkB l with
 | false => rfl
 | true =>
  have hok := (X9 l).1 hv; simp only [if_true,List.any_cons,List.any_nil,Bool.or_false,Ye]
  by_cases h : tm s = true ∧ tm fm = true
  · obtain ⟨h1,h2⟩ := h
    have q1 := (XK _).1 h1; have q2 := (XK _).1 h2; rw [h1,h2]; simp only [Bool.not_true,Bool.or_false,Bool.false_eq_true,if_false,Option.bind_some,if_true,true_and]
    have hjt : Z4.j0 (k + 1 + 1) l s fm len [] [] true = some ([],[],7) := by rw [Z4.j0.eq_2,if_pos rfl]
    by_cases h3 : fm < s
    · rw [if_pos h3,hjt,if_neg (by omega)]
    · rw [if_neg h3,Z6.eq]
      simp only [Option.bind_some]
      by_cases h4 : 0 ≤ len ∧ len ≤ 4096
      · rw [show (!(decide (0 ≤ len) && decide (len ≤ 4096))) = false by simp; omega,if_pos ⟨by omega,h4.1,h4.2⟩,Z4.j0.eq_2,if_neg (by simp)]
        have he : mn (wrap64 ((wrap64 (fm + len)) - 1)) 1000000000 = en fm len := by rw [w64 (x := fm + len) (by omega) (by omega),w64 (x := fm + len - 1) (by omega) (by omega)]; rfl
        rw [he]; obtain ⟨a1,a2,a3⟩ := XL l s (fm - 1) hok; have hle : cnt l s (fm - 1) ≤ cnt l s (en fm len) := Q1 l s hok (by unfold en mn; split <;> omega); have hloop := pf_loop (e := en fm len) hok q1.1 q1.2 q2.1 q2.2 4096 k (cnt l s (fm - 1)) [] [] (by rfl) rfl (by omega) a1 a2 hle
        have hres : (if ([] : List Int).length + (cnt l s (en fm len) - cnt l s (fm - 1)).toNat ≤ 4096 then (([] : List Int) ++ rng (cnt l s (en fm len) - cnt l s (fm - 1)).toNat (cnt l s (fm - 1)),([] : List Int) ++ (rng (cnt l s (en fm len) - cnt l s (fm - 1)).toNat (cnt l s (fm - 1))).map (fun u => fr l s u - fm),(0 : Int)) else ([],[],4)) = (if (cnt l s (en fm len) - cnt l s (fm - 1)).toNat ≤ 4096 then (rng (cnt l s (en fm len) - cnt l s (fm - 1)).toNat (cnt l s (fm - 1)),(rng (cnt l s (en fm len) - cnt l s (fm - 1)).toNat (cnt l s (fm - 1))).map (fun u => fr l s u - fm),0) else ([],[],4)) := by
         simp only [List.length_nil,Nat.zero_add,List.nil_append]
        rw [hres] at hloop
        by_cases h5 : fm > s
        · rw [if_pos h5,w64 (x := fm - 1) (by omega) (by omega)]
          have hc : cnt l s (fm - 1) = bs (fun n => decide (fr l s n ≤ fm - 1)) 0 1000000000 + 1 := by unfold cnt; rw [if_pos (by omega)]
          generalize hb : bs (fun n => decide (fr l s n ≤ fm - 1)) 0 1000000000 = B at hc
          have htk : Xw.f l s (fm - 1) = some B := by unfold Xw.f; rw [if_pos ⟨hv,q1.1,q1.2⟩,hb]
          rw [htk]; simp only [Option.bind_some]; have hB0 := (a3 0 (by omega) (by omega)).1 (by rw [Yl l s hok]; omega)
          have hfe : Xj.f l s B = some (fr l s B) := by unfold Xj.f; rw [if_pos ⟨hv,q1.1,q1.2,by omega,by omega⟩]
          have := (a3 B (by omega) (by omega)).2 (by omega); rw [hfe]; simp only [Option.bind_some]; rw [if_pos (by omega),w64 (x := B + 1) (by omega) (by omega),← hc,Z4.j1.eq_2,hloop]
        · rw [if_neg h5,Z4.j1.eq_2]
          have hc : cnt l s (fm - 1) = 0 := by unfold cnt; rw [if_neg (by omega)]
          rw [hc] at hloop ⊢; rw [hloop]
      · rw [show (!(decide (0 ≤ len) && decide (len ≤ 4096))) = true by simp; omega,hjt,if_neg (by omega)]
  · have : (!tm s || !tm fm) = true := by
     cases h1 : tm s <;> cases h2 : tm fm <;> simp_all
    rw [if_pos this,if_neg (show ¬ (tm s = true ∧ tm fm = true ∧ s ≤ fm ∧ 0 ≤ len ∧ len ≤ 4096) from fun hh => h ⟨hh.1,hh.2.1⟩)]; rfl
theorem frames_ref (s fm len : Int) : Zi.f k l s fm len = some (FS l s fm len) := by
 obtain ⟨k,rfl⟩ : ∃ q,k = q + 1 + 1 := ⟨k - 2,by omega⟩
 unfold Zi.f FS; rw [Yd hl (by omega)]; simp only [Option.bind_some,QT]
 have hjt : Zi.j0 (k + 1 + 1) l s fm len true = some ([],[],7) := by rw [Zi.j0.eq_2,if_pos rfl]
 cases hv : mapOkB l with
 | false => rfl
 | true =>
  have hok := (X9 l).1 hv; simp only [if_true]
  cases h1 : tm s with
  | false => rw [if_neg (by simp),hjt,if_neg (by simp)]
  | true =>
   have q1 := (XK _).1 h1; simp only [if_true,true_and]
   by_cases h3 : fm < s
   · rw [if_pos h3,hjt,if_neg (by omega)]
   · rw [if_neg h3]
     by_cases h2 : fm > 1000000000
     · rw [if_pos h2,hjt,if_neg (by rw [XK]; omega)]
     · rw [if_neg h2]
       have h2' : tm fm = true := by rw [XK]; omega
       rw [h2']; simp only [true_and]
       by_cases h4 : len < 0
       · rw [if_pos h4,hjt,if_neg (by omega)]
       · rw [if_neg h4]
         by_cases h5 : len > 4096
         · rw [show decide (len > 4096) = true by simpa using h5,hjt,if_neg (by omega)]
         · rw [show decide (len > 4096) = false by simpa using h5,if_pos ⟨by omega,by omega,by omega⟩,Zi.j0.eq_2,if_neg (by simp)]
           obtain ⟨a1,a2,a3⟩ := XL l s (fm - 1) hok; have hle : cnt l s (fm - 1) ≤ cnt l s (en fm len) := Q1 l s hok (by unfold en mn; split <;> omega); have hloop := rf_loop (e := en fm len) hok q1.1 q1.2 (by omega) (by omega) len (by omega) (by omega) rfl 4096 k (cnt l s (fm - 1)) [] [] (by rfl) rfl (by omega) a1 a2 hle; simp only [List.length_nil,Nat.zero_add,List.nil_append] at hloop
           by_cases h6 : fm > s
           · rw [if_pos h6,w64 (x := fm - 1) (by omega) (by omega),QN l hok s (fm - 1) q1.1 q1.2 (k + 1) (by omega)]
             have hc : cnt l s (fm - 1) = bs (fun n => decide (fr l s n ≤ fm - 1)) 0 1000000000 + 1 := by unfold cnt; rw [if_pos (by omega)]
             generalize bs (fun n => decide (fr l s n ≤ fm - 1)) 0 1000000000 = B at hc ⊢; simp only [Option.bind_some]; rw [w64 (x := B + 1) (by omega) (by omega),← hc,Zi.j1.eq_2,hloop]
           · rw [if_neg h6,Zi.j1.eq_2]
             have hc : cnt l s (fm - 1) = 0 := by unfold cnt; rw [if_neg (by omega)]
             rw [hc] at hloop ⊢; rw [hloop]
end
section
variable {l : List S27} (hl : l.length ≤ 100) {p : List S56} (hp : p.length ≤ 200) {k : Nat} (hk : 10000 ≤ k)
include hp hk
theorem curve_prog : Zm.f k p = some (curveB p) := upb (g := fun k => Zm.f k p) (fun k => Zm.mono p k) (c_eq p hp) k (by omega)
theorem curve_ref : Zq.f k p = some (curveB p) := upb (g := fun k => Zq.f k p) (fun k => Zq.mono p k) (refc_eq p hp) k (by omega)
end
theorem Y3 {l : List S27} (hok : MapOk l) {s y : Int} (h : s ≤ y) : 0 ≤ bs (fun n => decide (fr l s n ≤ y)) 0 1000000000 ∧ bs (fun n => decide (fr l s n ≤ y)) 0 1000000000 ≤ 1000000000 := by
 obtain ⟨a1,a2,a3⟩ := XL l s y hok; have := (a3 0 (by omega) (by omega)).1 (by rw [Yl l s hok]; omega); unfold cnt at a1 a2 this; rw [if_pos h] at a1 a2 this; omega
theorem pr_loop {l : List S27} {p : List S56} (hok : MapOk l) (hc : curveB p = true) {s fm : Int} (hs0 : 0 ≤ s) (hs1 : s ≤ 1000000000) (hf0 : s ≤ fm) (hf1 : fm ≤ 1000000000) (len : Int) (hlen : len ≤ 4096) : ∀ (d k : Nat) (i : Int) (acc : List Int),(len - i).toNat = d → 0 ≤ i → acc.length ≤ 4096 + 4096 - d → d < k →
 ZG.l0 k p l s fm acc len i = some (acc ++ (rng d (fm + i)).map (valY l p s),0) := by
 have hv : mapOkB l = true := (X9 l).2 hok; intro d
 induction d with
 | zero =>
  intro k i acc hd h0 ha hk
  obtain ⟨k,rfl⟩ : ∃ q,k = q + 1 := ⟨k - 1,by omega⟩
  rw [ZG.l0.eq_2,if_neg (by omega)]; simp [rng]
 | succ d ih =>
  intro k i acc hd h0 ha hk
  obtain ⟨k,rfl⟩ : ∃ q,k = q + 1 := ⟨k - 1,by omega⟩
  obtain ⟨b0,b1⟩ := Y3 hok (s := s) (y := fm + i) (by omega)
  have htk : Xw.f l s (fm + i) = some (bs (fun n => decide (fr l s n ≤ fm + i)) 0 1000000000) := by unfold Xw.f; rw [if_pos ⟨hv,hs0,hs1⟩]
  have hvl : XB.f p (bs (fun n => decide (fr l s n ≤ fm + i)) 0 1000000000) = some (valY l p s (fm + i)) := by unfold XB.f; rw [if_pos ⟨hc,b0,b1⟩]; rfl
  rw [ZG.l0.eq_2,if_pos (by omega),w64 (x := fm + i) (by omega) (by omega),htk]; simp only [Option.bind_some]; rw [hvl]; simp only [Option.bind_some]; rw [if_pos (by omega),w64 (x := i + 1) (by omega) (by omega),ih k (i + 1) _ (by omega) (by omega) (by simp; omega) (by omega)]; simp only [rng,List.map_cons,List.append_assoc,List.singleton_append]; rw [show fm + (i + 1) = fm + i + 1 by omega]
theorem rr_loop {l : List S27} {p : List S56} (hok : MapOk l) (hc : curveB p = true) {s fm : Int} (hs0 : 0 ≤ s) (hs1 : s ≤ 1000000000) (hf0 : s ≤ fm) (hf1 : fm ≤ 1000000000) (len : Int) (hlen : len ≤ 4096) : ∀ (d k : Nat) (i : Int) (acc : List Int),(len - i).toNat = d → 0 ≤ i → acc.length ≤ 4096 + 4096 - d → d + 300 < k →
 Zo.l0 k p l s fm len acc i = some (acc ++ (rng d (fm + i)).map (valY l p s),0) := by
 intro d
 induction d with
 | zero =>
  intro k i acc hd h0 ha hk
  obtain ⟨k,rfl⟩ : ∃ q,k = q + 1 := ⟨k - 1,by omega⟩
  rw [Zo.l0.eq_2,if_neg (by omega)]; simp [rng]
 | succ d ih =>
  intro k i acc hd h0 ha hk
  obtain ⟨k,rfl⟩ : ∃ q,k = q + 1 := ⟨k - 1,by omega⟩
  obtain ⟨b0,b1⟩ := Y3 hok (s := s) (y := fm + i) (by omega); have hvl := refvalue_eq p hc (bs (fun n => decide (fr l s n ≤ fm + i)) 0 1000000000) b1 k (by omega); rw [Zo.l0.eq_2,if_pos (by omega),w64 (x := fm + i) (by omega) (by omega),QN l hok s (fm + i) hs0 hs1 k (by omega)]; simp only [Option.bind_some]; rw [hvl]; simp only [Option.bind_some]; rw [if_pos (by omega),w64 (x := i + 1) (by omega) (by omega),ih k (i + 1) _ (by omega) (by omega) (by simp; omega) (by omega)]; simp only [rng,List.map_cons,List.append_assoc,List.singleton_append]; rw [show fm + (i + 1) = fm + i + 1 by omega]; rfl
section
variable {l : List S27} (hl : l.length ≤ 100) {p : List S56} (hp : p.length ≤ 200) {k : Nat} (hk : 10000 ≤ k)
include hl hp hk
theorem Q8 (s fm len : Int) : ZG.f k p l s fm len = some (RM l p s fm len) := by
 obtain ⟨k,rfl⟩ : ∃ q,k = q + 1 := ⟨k - 1,by omega⟩
 unfold ZG.f ZP.f RM; rw [curve_prog hp (by omega)]; simp only [Option.bind_some]
 cases hc : curveB p with
 | false => rfl
 | true =>
  rw [if_pos rfl,QL hl (by omega)]; simp only [Option.bind_some]
  cases hv : mapOkB l with
  | false => rfl
  | true =>
   have hok := (X9 l).1 hv
   have hjt : ZG.j0 (k + 1) p l s fm len true = some ([],7) := by rw [ZG.j0.eq_2,if_pos rfl]
   simp only [if_true,List.any_cons,List.any_nil,Bool.or_false,Ye,and_self]
   by_cases h : tm s = true ∧ tm fm = true
   · obtain ⟨h1,h2⟩ := h
     have q1 := (XK _).1 h1; have q2 := (XK _).1 h2; rw [h1,h2]; simp only [Bool.not_true,Bool.or_false,Bool.false_eq_true,if_false,Option.bind_some,if_true,true_and]
     by_cases h3 : fm < s
     · rw [if_pos h3,hjt,if_neg (by omega)]
     · rw [if_neg h3,Z6.eq]
       simp only [Option.bind_some]
       by_cases h4 : 0 ≤ len ∧ len ≤ 4096
       · rw [if_pos (by simp; omega),w64 (x := fm + len) (by omega) (by omega),w64 (x := fm + len - 1) (by omega) (by omega)]
         by_cases h5 : fm + len - 1 > 1000000000
         · rw [show decide (fm + len - 1 > 1000000000) = true by simpa using h5,hjt,if_neg (by omega)]
         · rw [show decide (fm + len - 1 > 1000000000) = false by simpa using h5,if_pos (by omega),ZG.j0.eq_2,if_neg (by simp)]
           rw [pr_loop hok hc q1.1 q1.2 (by omega) q2.2 len h4.2 len.toNat k 0 [] (by omega) (by omega) (by simp) (by omega)]; simp
       · rw [if_neg (by simp; omega),hjt,if_neg (by omega)]
   · have : (!tm s || !tm fm) = true := by
      cases h1 : tm s <;> cases h2 : tm fm <;> simp_all
     rw [if_pos this,if_neg (show ¬ (tm s = true ∧ tm fm = true ∧ s ≤ fm ∧ 0 ≤ len ∧ len ≤ 4096 ∧ fm + len - 1 ≤ 1000000000) from fun hh => h ⟨hh.1,hh.2.1⟩)]; rfl
theorem ramp_ref (s fm len : Int) : Zo.f k p l s fm len = some (RM l p s fm len) := by
 obtain ⟨k,rfl⟩ : ∃ q,k = q + 1 + 1 := ⟨k - 2,by omega⟩
 unfold Zo.f RM; rw [curve_ref hp (by omega)]; simp only [Option.bind_some]
 cases hc : curveB p with
 | false => simp [Zo.j0.eq_2]
 | true =>
  rw [if_pos rfl,Yd hl (by omega)]; simp only [Option.bind_some]
  cases hv : mapOkB l with
  | false => simp [Zo.j0.eq_2]
  | true =>
   have hok := (X9 l).1 hv
   have hjt : Zo.j1 (k + 1) p l s fm len true = some ([],7) := by rw [Zo.j1.eq_2,if_pos rfl]
   rw [Zo.j0.eq_2,if_neg (by simp),QT]; simp only [Option.bind_some,if_true,and_self]
   cases h1 : tm s with
   | false => rw [if_neg (by simp),hjt,if_neg (by simp)]
   | true =>
    have q1 := (XK _).1 h1; simp only [if_true,true_and]
    by_cases h3 : fm < s
    · rw [if_pos h3,hjt,if_neg (by omega)]
    · rw [if_neg h3]
      by_cases h2 : fm > 1000000000
      · rw [if_pos h2,hjt,if_neg (by rw [XK]; omega)]
      · rw [if_neg h2]
        have h2' : tm fm = true := by rw [XK]; omega
        rw [h2']; simp only [true_and]
        by_cases h4 : len < 0
        · rw [if_pos h4,hjt,if_neg (by omega)]
        · rw [if_neg h4]
          by_cases h5 : len > 4096
          · rw [if_pos h5,hjt,if_neg (by omega)]
          · rw [if_neg h5,w64 (x := fm + len) (by omega) (by omega),w64 (x := fm + len - 1) (by omega) (by omega)]
            by_cases h6 : fm + len - 1 > 1000000000
            · rw [show decide (fm + len - 1 > 1000000000) = true by simpa using h6,hjt,if_neg (by omega)]
            · rw [show decide (fm + len - 1 > 1000000000) = false by simpa using h6,if_pos (by omega),Zo.j1.eq_2,if_neg (by simp)]
              rw [rr_loop hok hc q1.1 q1.2 (by omega) (by omega) len (by omega) len.toNat k 0 [] (by omega) (by omega) (by simp) (by omega)]; simp
end
end Go.Proofs.Ytomlfbmfdoallaa.Pure

namespace Go.Proofs.Ytomlfbmfdoallaa.Pure
open Go.RowKit Go.Proofs.Ytomlfbmfdoallaa.PA Go.Proofs.YtomlfbmfdoallaaW.PrintWords Go.Proofs.YtomlfbmfdoallaaW.PrintLast
set_option linter.unusedVariables false
set_option linter.unusedSimpArgs false
theorem ints_loop (a : List Int) (ha : a.length ≤ 100000) : ∀ (d k i : Nat),a.length - i = d → d + 1 < k → Zw.l0 k a a (i : Int) = some true := by
 intro d
 induction d with
 | zero =>
  intro k i hd hk
  obtain ⟨k,rfl⟩ : ∃ q,k = q + 1 := ⟨k - 1,by omega⟩
  rw [Zw.l0.eq_2,if_neg (by omega)]
 | succ d ih =>
  intro k i hd hk
  obtain ⟨k,rfl⟩ : ∃ q,k = q + 1 := ⟨k - 1,by omega⟩
  have hw : wrap64 ((i : Int) + 1) = ((i + 1 : Nat) : Int) := by rw [w64 (by omega) (by omega)]; omega
  rw [Zw.l0.eq_2,if_pos (by omega),if_pos (by omega),if_pos (by omega),if_pos rfl,hw]; exact ih k (i + 1) (by omega) (by omega)
theorem XS (a : List Int) (ha : a.length ≤ 100000) (k : Nat) (hk : a.length + 1 < k) : Zw.f k a a = some true := by
 unfold Zw.f; rw [if_pos rfl]; exact ints_loop a ha _ k 0 rfl (by omega)
theorem rdI (l : List Int) (i : Nat) (h : i < l.length) : rd l (i : Int) = l[i] := by simp [rd,h]
theorem add_loop (x0 : List S27) (x1 : List S56) (x2 x3 x4 x20 c : Int) (A B x21 : List Int) (hA : A.length ≤ 100000) (hB : B.length ≤ 100000)
 (hj : ∀ k,20000 ≤ k → Ze.j5 k x0 x1 x2 x3 x4 x20 x21 c = some true) (Z U : List Int) (hZ : Z.length = U.length) (hUl : U.length ≤ 100000) (hU : ∀ u ∈ U,-10000000000 ≤ u + c ∧ u + c ≤ 10000000000) :
 ∀ (d k i : Nat) (X Y : List Int),U.length - i = d → i ≤ U.length → d + 200010 < k → X ++ Z.drop i = A → Y ++ (U.drop i).map (fun u => u + c) = B →
 Ze.l0 k x0 x1 x2 x3 x4 A B x20 x21 c X Y Z U (i : Int) = some true := by
 intro d
 induction d with
 | zero =>
  intro k i X Y hd hi hk h1 h2
  obtain ⟨k,rfl⟩ : ∃ q,k = q + 1 := ⟨k - 1,by omega⟩
  have e1 : Z.drop i = [] := List.drop_eq_nil_of_le (by omega); have e2 : U.drop i = [] := List.drop_eq_nil_of_le (by omega); rw [e1,List.append_nil] at h1; rw [e2,List.map_nil,List.append_nil] at h2; subst h1; subst h2; rw [Ze.l0.eq_2,if_neg (by omega),XS X hA k (by omega)]; simp only [Option.bind_some,if_true]; rw [XS Y hB k (by omega)]; simp only [Option.bind_some,if_true]; exact hj k (by omega)
 | succ d ih =>
  intro k i X Y hd hi hk h1 h2
  obtain ⟨k,rfl⟩ : ∃ q,k = q + 1 := ⟨k - 1,by omega⟩
  have hiu : i < U.length := by omega
  have hiz : i < Z.length := by omega
  have hw : wrap64 ((i : Int) + 1) = ((i + 1 : Nat) : Int) := by
   rw [w64 (by omega) (by omega)]; omega
  have hu := hU U[i] (List.getElem_mem hiu)
  have hX : X.length ≤ 100000 := by
   have := congrArg List.length h1; simp at this; omega
  have hY : Y.length ≤ 100000 := by
   have := congrArg List.length h2; simp at this; omega
  rw [List.drop_eq_getElem_cons hiz] at h1; rw [List.drop_eq_getElem_cons hiu,List.map_cons] at h2; rw [Ze.l0.eq_2,if_pos (by omega),if_pos (by omega),if_pos (by omega),rdI Z i hiz,rdI U i hiu]; simp only [Option.bind_some,List.length_singleton]; rw [if_pos (by omega),if_pos (by omega),hw,w64 (x := U[i] + c) (by omega) (by omega)]; exact ih k (i + 1) (X ++ [Z[i]]) (Y ++ [U[i] + c]) (by omega) (by omega) (by omega) (by rw [← h1]; simp) (by rw [← h2]; simp)
theorem Yz : ∀ (d : Nat) (t u : Int),u ∈ rng d t → t ≤ u ∧ u < t + d
 | 0,t,u,h => by simp [rng] at h
 | d + 1,t,u,h => by
  simp only [rng,List.mem_cons] at h
  rcases h with rfl | h
  · omega
  · have := Yz d (t + 1) u h
    omega
theorem TempoBlocks : ∀ (l : List S27) (p : List S56) (s fm len cut : Int),∃ k,Ze.f k l p s fm len cut = some true := by
 intro l p s fm len cut; refine ⟨300000,?_⟩; unfold Ze.f; rw [upb (g := fun k => ZE.f k) (fun k => ZE.mono k) awake_ok 300000 (by omega)]; simp only [Option.bind_some,if_true]
 have hlong : Xc.f l ([] : List S61) p = some (decide (60 < l.length ∨ 120 < p.length)) := by
  unfold Xc.f
  by_cases h : 60 < l.length
  · rw [if_pos (by omega)]; simp [h]
  · rw [if_neg (by omega),if_neg (by simp)]; simp [h]; omega
 rw [hlong]
 have j0t : ∀ k,0 < k → Ze.j0 k l p s fm len cut true = some true := by
  intro k hk
  obtain ⟨k,rfl⟩ : ∃ q,k = q + 1 := ⟨k - 1,by omega⟩
  rw [Ze.j0.eq_2,if_pos rfl]
 simp only [Option.bind_some,decide_eq_true_eq]
 by_cases hl0 : 60 < l.length ∨ 120 < p.length
 · rw [if_pos hl0,j0t _ (by omega)]
 · rw [if_neg hl0]
   have hl : l.length ≤ 100 := by omega
   have hp : p.length ≤ 200 := by omega
   have main : (len ≤ 1000 ∨ 4096 < len) → Ze.j0 300000 l p s fm len cut (decide (cut < 0)) = some true := by
    intro hlen
    by_cases hcut : cut < 0
    · rw [show decide (cut < 0) = true by simpa using hcut]; exact j0t _ (by omega)
    · rw [show decide (cut < 0) = false by simpa using hcut,Ze.j0.eq_2,if_neg (by simp),Qm hl (by omega),frames_ref hl (by omega)]
      simp only [Option.bind_some]
      have fl : (FS l s fm len).1.length ≤ 4096 ∧ (FS l s fm len).2.1.length ≤ 4096 := by
       unfold FS; split
       · split
         · split
           · refine ⟨by rw [XR]; assumption,by rw [List.length_map,XR]; assumption⟩
           · simp
         · simp
       · simp
      rw [XS _ (by omega) _ (by omega)]; simp only [Option.bind_some,if_true]; rw [XS _ (by omega) _ (by omega)]; simp only [Option.bind_some,if_true,bne_self_eq_false]; rw [Ze.j1.eq_2,if_neg (by simp),Q8 hl hp (by omega),ramp_ref hl hp (by omega)]; simp only [Option.bind_some]
      have rl : (RM l p s fm len).1.length ≤ 4096 := by
       unfold RM; split
       · split
         · rename_i hh
           obtain ⟨_,_,_,h0,h1,_⟩ := hh; rw [List.length_map,XR]; omega
         · simp
       · simp
      rw [XS _ (by omega) _ (by omega)]; simp only [Option.bind_some,if_true,bne_self_eq_false]; rw [Ze.j2.eq_2,if_neg (by simp)]
      by_cases h1 : len < 1
      · rw [if_pos h1,Ze.j3.eq_2,if_pos rfl]
      · rw [if_neg h1]
        by_cases he : (FS l s fm len).2.2 = 0
        · rw [show ((FS l s fm len).2.2 != 0) = false by simp [he],Ze.j3.eq_2,if_neg (by simp)]
          have hFS := he; unfold FS at hFS
          by_cases hv : mapOkB l = true
          · rw [if_pos hv] at hFS
            by_cases hg : tm s = true ∧ tm fm = true ∧ s ≤ fm ∧ 0 ≤ len ∧ len ≤ 4096
            · rw [if_pos hg] at hFS
              by_cases hc : (cnt l s (en fm len) - cnt l s (fm - 1)).toNat ≤ 4096
              · obtain ⟨g1,g2,g3,g4,g5⟩ := hg
                have q1 := (XK _).1 g1; have q2 := (XK _).1 g2; have hok := (X9 l).1 hv; have hw1 : wrap64 (len + 1) = len + 1 := w64 (by omega) (by omega); rw [hw1,if_neg (by omega)]
                obtain ⟨c,hcd⟩ : ∃ c,Int.tmod cut (len + 1) = c := ⟨_,rfl⟩
                have hc0 : 0 ≤ c ∧ c ≤ len := by
                 rw [Int.tmod_eq_emod_of_nonneg (by omega)] at hcd; have := Int.emod_nonneg cut (show len + 1 ≠ 0 by omega); have := Int.emod_lt_of_pos cut (show 0 < len + 1 by omega); omega
                rw [hcd]; clear hcd; have m1 : cnt l s (fm - 1) ≤ cnt l s (en fm c) := Q1 l s hok (by unfold en mn; split <;> omega); have m2 : cnt l s (en fm c) ≤ cnt l s (en fm len) := Q1 l s hok (en_le hc0.2)
                have hF : FS l s fm len = (rng (cnt l s (en fm len) - cnt l s (fm - 1)).toNat (cnt l s (fm - 1)),(rng (cnt l s (en fm len) - cnt l s (fm - 1)).toNat (cnt l s (fm - 1))).map (fun u => fr l s u - fm),0) := by
                 unfold FS; rw [if_pos hv,if_pos ⟨g1,g2,g3,g4,g5⟩,if_pos hc]
                have hF1 : FS l s fm c = (rng (cnt l s (en fm c) - cnt l s (fm - 1)).toNat (cnt l s (fm - 1)),(rng (cnt l s (en fm c) - cnt l s (fm - 1)).toNat (cnt l s (fm - 1))).map (fun u => fr l s u - fm),0) := by
                 unfold FS; rw [if_pos hv,if_pos ⟨g1,g2,g3,by omega,by omega⟩,if_pos (by omega)]
                have hwc : wrap64 (fm + c) = fm + c := w64 (by omega) (by omega); have hwl : wrap64 (len - c) = len - c := w64 (by omega) (by omega)
                have hj5 : ∀ k,20000 ≤ k → Ze.j5 k l p s fm len (RM l p s fm len).2 (RM l p s fm len).1 c = some true := by
                 intro k hk
                 obtain ⟨k,rfl⟩ : ∃ q,k = q + 1 + 1 := ⟨k - 2,by omega⟩
                 have j6t : Ze.j6 (k + 1) l p s fm len (RM l p s fm len).1 c true = some true := by
                  rw [Ze.j6.eq_2,if_pos rfl]
                 rw [Ze.j5.eq_2]
                 by_cases hr : (RM l p s fm len).2 = 0
                 · rw [if_pos hr,hwc]
                   by_cases hb : fm + c > 1000000000
                   · rw [show decide (fm + c > 1000000000) = true by simpa using hb,j6t]
                   · rw [show decide (fm + c > 1000000000) = false by simpa using hb,Ze.j6.eq_2,if_neg (by simp),Q8 hl hp (by omega)]
                     simp only [Option.bind_some]; unfold RM at hr
                     by_cases hcv : curveB p = true ∧ mapOkB l = true
                     · rw [if_pos hcv] at hr
                       by_cases hx : tm s = true ∧ tm fm = true ∧ s ≤ fm ∧ 0 ≤ len ∧ len ≤ 4096 ∧ fm + len - 1 ≤ 1000000000
                       · have hx6 := hx.2.2.2.2.2
                         have e0 : RM l p s fm len = ((rng len.toNat fm).map (valY l p s),0) := by
                          unfold RM; rw [if_pos hcv,if_pos hx]
                         have e1 : RM l p s fm c = ((rng c.toNat fm).map (valY l p s),0) := by
                          unfold RM; rw [if_pos hcv,if_pos ⟨g1,g2,g3,by omega,by omega,by omega⟩]
                         have e2 : RM l p s (fm + c) (len - c) = ((rng (len - c).toNat (fm + c)).map (valY l p s),0) := by
                          unfold RM; rw [if_pos hcv,if_pos ⟨g1,by rw [XK]; omega,by omega,by omega,by omega,by omega⟩]
                         rw [e1]; simp only [if_true]; rw [hwc,hwl,Q8 hl hp (by omega),e2,e0]; simp only [Option.bind_some,if_true,List.length_map,XR]; rw [if_pos (by omega)]
                         have : (rng c.toNat fm).map (valY l p s) ++ (rng (len - c).toNat (fm + c)).map (valY l p s) = (rng len.toNat fm).map (valY l p s) := by
                          rw [← List.map_append,show len.toNat = c.toNat + (len - c).toNat by omega,Yk,show ((c.toNat : Nat) : Int) = c by omega]
                         rw [this,XS _ (by rw [List.length_map,XR]; omega) _ (by rw [List.length_map,XR]; omega)]; rfl
                       · rw [if_neg hx] at hr
                         simp at hr
                     · rw [if_neg hcv] at hr
                       simp at hr
                 · rw [if_neg hr,j6t]
                rw [Qm hl (by omega),hF1]; simp only [Option.bind_some,if_true]; rw [hwc,hwl]
                by_cases hb : fm + c ≤ 1000000000
                · rw [if_pos hb,Qm hl (by omega)]
                  have eA : en fm c = fm + c - 1 := by unfold en mn; split <;> omega
                  have eB : en (fm + c) (len - c) = en fm len := by unfold en; rw [show fm + c + (len - c) - 1 = fm + len - 1 by omega]
                  rw [eA] at m1 m2 hF1 ⊢
                  have hF2 : FS l s (fm + c) (len - c) = (rng (cnt l s (en fm len) - cnt l s (fm + c - 1)).toNat (cnt l s (fm + c - 1)),(rng (cnt l s (en fm len) - cnt l s (fm + c - 1)).toNat (cnt l s (fm + c - 1))).map (fun u => fr l s u - (fm + c)),0) := by
                   unfold FS; rw [if_pos hv,if_pos ⟨g1,by rw [XK]; omega,by omega,by omega,by omega⟩,eB,if_pos (by omega)]
                  rw [hF2,hF]; simp only [Option.bind_some,if_true]; obtain ⟨a1,a2,a3⟩ := XL l s (fm + c - 1) hok; obtain ⟨b1,b2,b3⟩ := XL l s (en fm len) hok
                  have hen : en fm len ≤ 1000000000 := by unfold en mn; split <;> omega
                  have hsum : rng (cnt l s (en fm len) - cnt l s (fm - 1)).toNat (cnt l s (fm - 1)) = rng (cnt l s (fm + c - 1) - cnt l s (fm - 1)).toNat (cnt l s (fm - 1)) ++ rng (cnt l s (en fm len) - cnt l s (fm + c - 1)).toNat (cnt l s (fm + c - 1)) := by
                   rw [show (cnt l s (en fm len) - cnt l s (fm - 1)).toNat = (cnt l s (fm + c - 1) - cnt l s (fm - 1)).toNat + (cnt l s (en fm len) - cnt l s (fm + c - 1)).toNat by omega,Yk]; rw [show cnt l s (fm - 1) + (((cnt l s (fm + c - 1) - cnt l s (fm - 1)).toNat : Nat) : Int) = cnt l s (fm + c - 1) by omega]
                  have hrw : (0 : Int) = ((0 : Nat) : Int) := rfl; rw [hF] at fl; refine add_loop l p s fm len _ c _ _ _ (Nat.le_trans fl.1 (by omega)) (Nat.le_trans fl.2 (by omega)) hj5 _ _ (by rw [List.length_map]) (by rw [List.length_map,XR]; omega) ?_ _ _ 0 _ _ rfl (by omega) (by rw [List.length_map,XR]; omega) ?_ ?_
                  · intro u hu
                    obtain ⟨t,ht,rfl⟩ := List.mem_map.1 hu; obtain ⟨t1,t2⟩ := Yz _ _ _ ht
                    have x1 := (a3 t (by omega) (by omega))
                    have x2 := (b3 t (by omega) (by omega)).2 (by omega)
                    have x3 : ¬ fr l s t ≤ fm + c - 1 := fun hh => by have := x1.1 hh; omega
                    omega
                  · rw [List.drop_zero,hsum]
                  · rw [List.drop_zero,hsum,List.map_append,List.map_map]
                    congr 1
                    refine List.map_congr_left fun t _ => ?_
                    show fr l s t - (fm + c) + c = fr l s t - fm; omega
                · rw [if_neg hb]
                  exact hj5 _ (by omega)
              · rw [if_neg hc] at hFS
                simp at hFS
            · rw [if_neg hg] at hFS
              simp at hFS
          · rw [if_neg hv] at hFS
            simp at hFS
        · rw [show ((FS l s fm len).2.2 != 0) = true by simp [he],Ze.j3.eq_2,if_pos rfl]
   by_cases h1 : len > 1000
   · rw [if_pos h1]
     by_cases h2 : len ≤ 4096
     · rw [if_pos h2,j0t _ (by omega)]
     · rw [if_neg h2]
       exact main (by omega)
   · rw [if_neg h1]
     exact main (by omega)
end Go.Proofs.Ytomlfbmfdoallaa.Pure

namespace Go.Proofs.Ytomlfbmfdoallaa
open Go.ChangeShapes Go.WideShapes Go.Deep
set_option linter.unusedVariables false
section
variable {H : Type} {enc : TypeId × Value → H} {P : Program} {w : World} {base : Nat} {spare : Nat → Bool} {held : Bool}
theorem open_slice_fields {t e : TypeId} {fs : Array Field} {fuel : Nat} {cs : List Value} {x : DataW H × List MemPlace} (ht : P.underlying t = some (.slice e)) (he : P.underlying e = some (.struct fs))
 (hone : oneCellFields P fs = true) (hC : P.cellsOf e = fs.size) (h : DataW.trod enc P w base spare held fuel t cs = some x) :
 (cs = [.slice none 0 0] ∧ x = (.nil,[])) ∨
 ∃ (a : Addr) (len cap m : Nat) (D : Nat → DataW H) (Pl : Nat → List MemPlace),cs = [.slice (some a) len cap] ∧ base ≤ a.block ∧ len ≤ cap ∧ cap ≤ maxLen ∧ m = (if spare a.block then cap else len) ∧
  x = (.slice ((List.range len).map D) ((List.range (m - len)).map fun j => D (len + j)),MemPlace.row a (m * fs.size) ++ (List.range m).flatMap Pl) ∧
  ∀ i,i < m → ∃ (ys : List (DataW H × List MemPlace)) (n : Nat),D i = .agg (ys.map (·.1)) ∧ Pl i = ys.flatMap (·.2) ∧ ys.length = fs.size ∧
   ∀ (j : Nat) (f : Field),fs[j]? = some f → ∃ (v : Value) (y : DataW H × List MemPlace),w.cell? (a.add (i * fs.size + j)) = some v ∧ ys[j]? = some y ∧ DataW.trod enc P w base spare held n f.type [v] = some y := by
 rcases open_slice ht h with h0 | ⟨a,len,cap,m,n,D,Pl,hcs,hb,hl,hm,hmm,hx,hi⟩
 · exact .inl h0
 · refine .inr ⟨a,len,cap,m,D,Pl,hcs,hb,hl,hm,hmm,by rw [hC] at hx; exact hx,fun i him => ?_⟩
   obtain ⟨cs',hc,ht'⟩ := hi i him; rw [hC] at hc; obtain ⟨ys,n',hn',hy,hlen,hyl,hf⟩ := DataW.trod_struct he ht'; obtain ⟨_,hcl,hat⟩ := World.cells?_some hc; simp only [Prod.mk.injEq] at hy; refine ⟨ys,n',hy.1,hy.2,hyl,fun j f hj => ?_⟩; obtain ⟨ho,hk⟩ := hone_of hone j f hj; have hjl : j < fs.size := (Array.getElem?_eq_some_iff.1 hj).1; have hcell := hat j hjl; have hv : cs'[j]? = some (cs'[j]'(by omega)) := List.getElem?_eq_getElem (by omega); have h1 := hf j f hj; rw [ho,hk] at h1
   have hone' : (cs'.drop j).take 1 = [cs'[j]'(by omega)] := by
    rw [List.drop_eq_getElem_cons (by omega)]; rfl
   rw [hone'] at h1; have hys : ys[j]? = some (ys[j]'(by omega)) := List.getElem?_eq_getElem (by omega); refine ⟨_,_,?_,hys,h1.trans hys⟩; rw [← Go.Deep.add_add,hcell,hv]
end
section
variable {H : Type} {enc : TypeId × Value → H} {P : Program} {w : World} {base : Nat} {spare : Nat → Bool} {held : Bool}
def Triples (w : World) (a : Option Addr) (len cap : Nat) (zs : List (Int × Int × Int)) : Prop :=
 zs.length = len ∧ len ≤ cap ∧ len ≤ 9223372036854775807 ∧ (∀ p ∈ zs,(Lit.int .i64 p.1).wf = true ∧ (Lit.int .i64 p.2.1).wf = true ∧ (Lit.int .i64 p.2.2).wf = true) ∧
  (0 < len → ∃ ad,a = some ad ∧ ∀ j p,zs[j]? = some p → ∀ i u,[Value.int .i64 p.1,.int .i64 p.2.1,.int .i64 p.2.2][i]? = some u → w.cell? (ad.add (j * 3 + i)) = some u)
theorem QH {t e : TypeId} {f0 f1 f2 : Field} {fuel : Nat} {a : Option Addr} {len cap : Nat} {x : DataW H × List MemPlace} (ht : P.underlying t = some (.slice e)) (he : P.underlying e = some (.struct #[f0,f1,f2]))
 (hone : oneCellFields P #[f0,f1,f2] = true) (hC : P.cellsOf e = 3) (h0 : P.underlying f0.type = some (.int .i64)) (h1 : P.underlying f1.type = some (.int .i64)) (h2 : P.underlying f2.type = some (.int .i64))
 (h : DataW.trod enc P w base spare held fuel t [.slice a len cap] = some x) : ∃ zs,Triples w a len cap zs := by
 rcases open_slice_fields ht he hone hC h with ⟨hcs,_⟩ | ⟨ad,l,c,m,D,Pl,hcs,_,hl,hm,hmm,_,hi⟩
 · simp at hcs
   obtain ⟨rfl,rfl,rfl⟩ := hcs; exact ⟨[],rfl,by omega,by omega,by simp,fun h => absurd h (Nat.lt_irrefl 0)⟩
 · simp at hcs
   obtain ⟨rfl,rfl,rfl⟩ := hcs
   have hlm : len ≤ m := by rw [hmm]; split <;> omega
   have key : ∀ i,i < len → ∃ p : Int × Int × Int,((Lit.int .i64 p.1).wf = true ∧ (Lit.int .i64 p.2.1).wf = true ∧ (Lit.int .i64 p.2.2).wf = true) ∧ ∀ k u,[Value.int .i64 p.1,.int .i64 p.2.1,.int .i64 p.2.2][k]? = some u → w.cell? (ad.add (i * 3 + k)) = some u := by
    intro i hil; obtain ⟨ys,n,_,_,hy,hf⟩ := hi i (by omega); obtain ⟨v0,y0,c0,_,t0⟩ := hf 0 f0 rfl; obtain ⟨v1,y1,c1,_,t1⟩ := hf 1 f1 rfl; obtain ⟨v2,y2,c2,_,t2⟩ := hf 2 f2 rfl; obtain ⟨p0,e0,_,w0⟩ := DataW.trod_int h0 t0; obtain ⟨p1,e1,_,w1⟩ := DataW.trod_int h1 t1; obtain ⟨p2,e2,_,w2⟩ := DataW.trod_int h2 t2; simp only [List.cons.injEq,and_true] at e0 e1 e2; subst e0 e1 e2; refine ⟨(p0,p1,p2),⟨w0,w1,w2⟩,fun k u hk => ?_⟩
    match k with
    | 0 => simp at hk; subst hk; exact c0
    | 1 => simp at hk; subst hk; exact c1
    | 2 => simp at hk; subst hk; exact c2
    | k + 3 => simp at hk
   have key2 : ∀ n,n ≤ len → ∃ zs : List (Int × Int × Int),zs.length = n ∧ (∀ p ∈ zs,(Lit.int .i64 p.1).wf = true ∧ (Lit.int .i64 p.2.1).wf = true ∧ (Lit.int .i64 p.2.2).wf = true) ∧ ∀ j p,zs[j]? = some p → ∀ k u,[Value.int .i64 p.1,.int .i64 p.2.1,.int .i64 p.2.2][k]? = some u → w.cell? (ad.add (j * 3 + k)) = some u := by
    intro n
    induction n with
    | zero => intro _; exact ⟨[],rfl,by simp,by simp⟩
    | succ n ih =>
     intro hn; obtain ⟨zs,hz,hw,hc⟩ := ih (by omega); obtain ⟨p,hwp,hp⟩ := key n (by omega); refine ⟨zs ++ [p],by simp [hz],?_,?_⟩
     · intro q hq
       rcases List.mem_append.1 hq with hq | hq
       · exact hw q hq
       · rw [List.mem_singleton.1 hq]; exact hwp
     · intro j q hj
       by_cases hjn : j < n
       · rw [List.getElem?_append_left (by omega)] at hj
         exact hc j q hj
       · have hj2 := (List.getElem?_eq_some_iff.1 hj).1
         simp [hz] at hj2
         obtain rfl : j = n := by omega
         rw [List.getElem?_append_right (by omega)] at hj; simp [hz] at hj; subst hj; exact hp
   obtain ⟨zs,hz,hw,hc⟩ := key2 len (Nat.le_refl _); exact ⟨zs,hz,hl,by unfold maxLen at hm; omega,hw,fun _ => ⟨ad,rfl,hc⟩⟩
end
end Go.Proofs.Ytomlfbmfdoallaa

namespace Go.Proofs.Ytomlfbmfdoallaa.tempoBlocks
open Go.ChangeShapes Go.WideShapes Go.ChangeAt Go.RowKit Go.Joins
set_option linter.unusedVariables false
theorem own : ownKnob Try.prog.godebug = none := by kernel_rfl
theorem laidOut : laidOutB Try.prog = true := by kernel_rfl
def tr27 (zs : List (Int × Int × Int)) : List PA.S27 := zs.map fun p => ⟨p.1,p.2.1,p.2.2⟩
theorem kd27 {W : World} {a : Option Addr} {len cap : Nat} {zs : List (Int × Int × Int)} (h : Triples W a len cap zs) : Go.Proofs.YtomlfbmfdoallaaW.PrintWords.Kd.C PA.k27 W a (tr27 zs).length (tr27 zs) ∧ (tr27 zs).length = len := by
 obtain ⟨h1,h2,h3,_,h4⟩ := h
 have hl : (tr27 zs).length = len := by simp [tr27,h1]
 refine ⟨⟨rfl,by omega,fun hp => ?_⟩,hl⟩; obtain ⟨ad,e,hc⟩ := h4 (by omega); refine ⟨ad,e,fun j p hj => ?_⟩; simp only [tr27,List.getElem?_map,Option.map_eq_some_iff] at hj; obtain ⟨q,hq,rfl⟩ := hj; exact ⟨_,rfl,PA.k27_mk W _,hc j q hq⟩
def tr56 (zs : List (Int × Int × Int)) : List PA.S56 := zs.map fun p => ⟨p.1,p.2.1,p.2.2⟩
theorem kd56 {W : World} {a : Option Addr} {len cap : Nat} {zs : List (Int × Int × Int)} (h : Triples W a len cap zs) : Go.Proofs.YtomlfbmfdoallaaW.PrintWords.Kd.C PA.k56 W a (tr56 zs).length (tr56 zs) ∧ (tr56 zs).length = len := by
 obtain ⟨h1,h2,h3,_,h4⟩ := h
 have hl : (tr56 zs).length = len := by simp [tr56,h1]
 refine ⟨⟨rfl,by omega,fun hp => ?_⟩,hl⟩; obtain ⟨ad,e,hc⟩ := h4 (by omega); refine ⟨ad,e,fun j p hj => ?_⟩; simp only [tr56,List.getElem?_map,Option.map_eq_some_iff] at hj; obtain ⟨q,hq,rfl⟩ := hj; exact ⟨_,rfl,PA.k56_mk W _,hc j q hq⟩
set_option maxRecDepth 100000 in
theorem lifted (os : Os) (started : os.Started) (H : Type) (enc : TypeId × Value → H) :
 ReturnsInHanded {} Try.checked os 7 .any (Rows.tempoBlocksSpec.pre6 enc Try.prog Try.f7 Rows.tempoBlocksRow.domain false) (Rows.tempoBlocksSpec.post enc Try.prog Try.f7 false true false false) := by
 refine returnsInHanded_of_change_sized (C := Try.checked) own started (by kernel_rfl) Try.func7
  (ChangeSpec.witness6 (enc := enc) (C := Try.checked) false ⟨#[],#[.slice none 0 0,.slice none 0 0,.int .i64 0,.int .i64 0,.int .i64 0,.int .i64 0],[]⟩ 8 (by kernel_rfl) (by kernel_rfl) (by kernel_rfl) (by kernel_rfl)) ?_
 intro W base args ds gs before hval0 hW hcnd hsz0 _; have hval : ∀ (j : Nat) t v,Try.f7.params[j]? = some t → args[j]? = some v → Value.okWide Try.prog W .any base t v := hval0; have hW' := hW; obtain ⟨p,q,hA0,hV,rfl,hfz,hnd⟩ := hW; have hA : DataW.TrodAll enc Try.prog W 0 (fun _ => true) true Try.f7.params.toList args.toList ds p := hA0; rw [Try.params7] at hA hval; obtain ⟨v0,vs0,d0,ds0,p0,q0,hargs,rfl,rfl,h0,r0⟩ := trodAll_cons hA; obtain ⟨v1,vs1,d1,ds1,p1,q1,rfl,rfl,rfl,h1,r1⟩ := trodAll_cons r0; obtain ⟨v2,vs2,d2,ds2,p2,q2,rfl,rfl,rfl,h2,r2⟩ := trodAll_cons r1; obtain ⟨v3,vs3,d3,ds3,p3,q3,rfl,rfl,rfl,h3,r3⟩ := trodAll_cons r2; obtain ⟨v4,vs4,d4,ds4,p4,q4,rfl,rfl,rfl,h4,r4⟩ := trodAll_cons r3; obtain ⟨v5,vs5,d5,ds5,p5,q5,rfl,rfl,rfl,h5,r5⟩ := trodAll_cons r4; obtain ⟨rfl,rfl,rfl⟩ := trodAll_nil r5
 obtain rfl : args = #[v0,v1,v2,v3,v4,v5] := by cases args; simp_all
 obtain ⟨rfl,rfl⟩ := trodVars_none hV; obtain ⟨a0,len0,cap0,rfl⟩ := okWide_slice Try.underlying22 (hval 0 22 v0 rfl rfl); have k0 := h0
 have lt0 : ∀ x ∈ p0,x.block < W.heap.size := by obtain ⟨m,hm⟩ := k0; exact DataW.trod_lt m _ _ _ hm
 obtain ⟨zs0,tz0⟩ : ∃ zs,Triples W a0 len0 cap0 zs := by
  obtain ⟨fuel,hf⟩ := h0; exact QH Try.underlying22 Try.underlying27 (by kernel_rfl) (by kernel_rfl) Try.underlying3 Try.underlying3 Try.underlying3 (by simpa [Value.cells] using hf)
 obtain ⟨kd0,kl0⟩ := kd27 tz0; obtain ⟨a1,len1,cap1,rfl⟩ := okWide_slice Try.underlying45 (hval 1 45 v1 rfl rfl); have k1 := h1
 have lt1 : ∀ x ∈ p1,x.block < W.heap.size := by obtain ⟨m,hm⟩ := k1; exact DataW.trod_lt m _ _ _ hm
 obtain ⟨zs1,tz1⟩ : ∃ zs,Triples W a1 len1 cap1 zs := by
  obtain ⟨fuel,hf⟩ := h1; exact QH Try.underlying45 Try.underlying56 (by kernel_rfl) (by kernel_rfl) Try.underlying3 Try.underlying3 Try.underlying3 (by simpa [Value.cells] using hf)
 obtain ⟨kd1,kl1⟩ := kd56 tz1; obtain ⟨a2,rfl,rfl,rfl,w2⟩ := open_int Try.underlying3 (hval 2 3 v2 rfl rfl) h2; obtain ⟨a3,rfl,rfl,rfl,w3⟩ := open_int Try.underlying3 (hval 3 3 v3 rfl rfl) h3; obtain ⟨a4,rfl,rfl,rfl,w4⟩ := open_int Try.underlying3 (hval 4 3 v4 rfl rfl) h4; obtain ⟨a5,rfl,rfl,rfl,w5⟩ := open_int Try.underlying3 (hval 5 3 v5 rfl rfl) h5; clear hA0 hval0 hsz0; obtain ⟨k,hk⟩ := Pure.TempoBlocks (tr27 zs0) (tr56 zs1) a2 a3 a4 a5; have HC := PA.Ze.calls k a0 cap0 (tr27 zs0) a1 cap1 (tr56 zs1) a2 a3 a4 a5 true W kd0 (by rw [kl0]; exact tz0.2.1) kd1 (by rw [kl1]; exact tz1.2.1) hk; rw [kl0,kl1] at HC
 refine HC.mono fun e W' ⟨he,bel⟩ => ?_
 subst he; exact ⟨_,rfl,_,_,_,[],_,[],hW',trodAll_mk1 (shut_bool Try.underlying4 _),(trodAll_cons_mk (Below.trod laidOut (by kernel_rfl) (of_decide_eq_true (by kernel_rfl)) k0 bel lt0) (trodAll_cons_mk (Below.trod laidOut (by kernel_rfl) (of_decide_eq_true (by kernel_rfl)) k1 bel lt1) (trodAll_cons_mk (shut_int Try.underlying3 w2) (trodAll_cons_mk (shut_int Try.underlying3 w3) (trodAll_cons_mk (shut_int Try.underlying3 w4) (trodAll_cons_mk (shut_int Try.underlying3 w5) trodAll_mk0)))))),rfl,bel.frame _,fun h => by cases h⟩
theorem over : Rows.tempoBlocksRow.holds Try.pinned (OpenSpec.ofChange Rows.tempoBlocksSpec) :=
 OpenClaim.holds_of_wide 7 Try.f7 rfl rfl rfl rfl rfl rfl rfl ⟨rfl,rfl,rfl,rfl,rfl⟩ rfl rfl rfl rfl rfl (by kernel_rfl) Try.func7 (by kernel_rfl)
  (of_decide_eq_true (by kernel_rfl)) (by unfold Func.isWrapper; first | (rw [if_pos (by decide +kernel)]; kernel_rfl) | (rw [if_neg (by decide +kernel)]; exact ⟨rfl,rfl⟩))
  (fun os started H enc _ => lifted os started H enc)
theorem proved : Rows.TempoBlocksSaid := over
#print axioms proved
end Go.Proofs.Ytomlfbmfdoallaa.tempoBlocks
namespace Go.Proofs.Ytomlfbmfdoallaa
theorem tempoBlocks_holds : Rows.TempoBlocksSaid := tempoBlocks.proved
end Go.Proofs.Ytomlfbmfdoallaa
