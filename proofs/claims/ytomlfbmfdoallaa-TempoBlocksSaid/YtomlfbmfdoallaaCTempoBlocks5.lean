/- TempoBlocks, part 5: what the row is built on. -/
import Derived.Test.YtomlfbmfdoallaaCTempoBlocks4
import Derived.LoopTactic
import Derived.Laws.EntriesVeiled
import Derived.Lib.Hide
import Derived.Deep.RegionHeld3
import Derived.Deep.QuietTactic
import Derived.BigQuiet
import Derived.BigRegion
namespace Go.Proofs.Ytomlfbmfdoallaa.PA
open Go.RowKit Go.Proofs.YtomlfbmfdoallaaW.PrintWords Go.Proofs.YtomlfbmfdoallaaW.PrintLast Go.Proofs.YtomlfbmfdoallaaW.PrintMore
attribute [local go_sem] Xf Xg Xo Xn Xa ZZ Xh Xi
set_option linter.unusedVariables false
set_option linter.unusedSimpArgs false
mutual
def Zm.l0 : Nat → List (S56) → List (S56) → Int → Int → Option (Bool)
 | 0,_,_,_,_ => none
 | k + 1,x0,x9,x10,x11 => if x11 < x10 then (if 0 ≤ x11 then (if x11 < (x9.length : Int) then ((Z6.f ((Zg x9 x11).f0) 0 1000000000).bind fun t359 => (if t359 = true then ((Z6.f ((Zg x9 x11).f1) (-8388607) 8388607).bind fun t360 => (if t360 = true then ((Z6.f ((Zg x9 x11).f2) 0 2).bind fun t361 => (if t361 = true then (if x11 > 0 then (if 0 ≤ (wrap64 (x11 - 1)) then (if (wrap64 (x11 - 1)) < (x0.length : Int) then (Zm.j1 k x0 x11 x9 x10 x11 (decide (((Zg x0 (wrap64 (x11 - 1))).f0) ≥ ((Zg x9 x11).f0))) ((Zg x9 x11).f0) ((Zg x9 x11).f1) ((Zg x9 x11).f2)) else (none)) else (none)) else (Zm.j1 k x0 x11 x9 x10 x11 false ((Zg x9 x11).f0) ((Zg x9 x11).f1) ((Zg x9 x11).f2))) else (Zm.j1 k x0 x11 x9 x10 x11 true ((Zg x9 x11).f0) ((Zg x9 x11).f1) ((Zg x9 x11).f2)))) else (Zm.j1 k x0 x11 x9 x10 x11 true ((Zg x9 x11).f0) ((Zg x9 x11).f1) ((Zg x9 x11).f2)))) else (Zm.j1 k x0 x11 x9 x10 x11 true ((Zg x9 x11).f0) ((Zg x9 x11).f1) ((Zg x9 x11).f2)))) else (none)) else (none)) else (some true)
def Zm.j1 : Nat → List (S56) → Int → List (S56) → Int → Int → Bool → Int → Int → Int → Option (Bool)
 | 0,_,_,_,_,_,_,_,_,_ => none
 | k + 1,x0,x3,x9,x10,x11,x46,x359000,x359001,x359002 => if x46 = true then (some false) else (if x359002 = 2 then (if (wrap64 (x3 + 1)) < (x0.length : Int) then (if 0 ≤ (wrap64 (x3 + 1)) then (if (wrap64 (((Zg x0 (wrap64 (x3 + 1))).f0) - x359000)) > 1000 then (some false) else (Zm.l0 k x0 x9 x10 (wrap64 (x11 + 1)))) else (none)) else (Zm.l0 k x0 x9 x10 (wrap64 (x11 + 1)))) else (Zm.l0 k x0 x9 x10 (wrap64 (x11 + 1))))
end
def Zm.f (k : Nat) (l0 : List (S56)) : Option (Bool) := (Z6.f (l0.length : Int) 1 100).bind fun t356 => (if t356 = true then (Zm.l0 k l0 l0 (l0.length : Int) 0) else (some false))
theorem Zm.Xq : ∀ k,(∀ y0 y1 y2 y3,LeO (Zm.l0 k y0 y1 y2 y3) (Zm.l0 (k + 1) y0 y1 y2 y3)) ∧ (∀ y0 y1 y2 y3 y4 y5 y6 y7 y8,LeO (Zm.j1 k y0 y1 y2 y3 y4 y5 y6 y7 y8) (Zm.j1 (k + 1) y0 y1 y2 y3 y4 y5 y6 y7 y8))
 | 0 => ⟨fun _ _ _ _ r h => by simp [Zm.l0] at h,fun _ _ _ _ _ _ _ _ _ r h => by simp [Zm.j1] at h⟩
 | k + 1 => by
  obtain ⟨ih0,ih1⟩ := Zm.Xq k; refine ⟨?_,?_⟩
  · intro y0 y1 y2 y3
    unfold Zm.l0
    repeat' first
    | (with_reducible exact ih0 _ _ _ _)
    | (with_reducible exact ih1 _ _ _ _ _ _ _ _ _)
    | (with_reducible exact LeO.refl _)
    | (with_reducible exact LeO.none _)
    | (with_reducible refine LeO.ite ?_ ?_)
    | (with_reducible refine LeO.bind ?_ (fun _ => ?_))
    | exact ih0 _ _ _ _
    | exact ih1 _ _ _ _ _ _ _ _ _
    | exact LeO.none _
    | refine LeO.ite ?_ ?_
    | refine LeO.bind ?_ (fun _ => ?_)
  · intro y0 y1 y2 y3 y4 y5 y6 y7 y8
    unfold Zm.j1
    repeat' first
    | (with_reducible exact ih0 _ _ _ _)
    | (with_reducible exact ih1 _ _ _ _ _ _ _ _ _)
    | (with_reducible exact LeO.refl _)
    | (with_reducible exact LeO.none _)
    | (with_reducible refine LeO.ite ?_ ?_)
    | (with_reducible refine LeO.bind ?_ (fun _ => ?_))
    | exact ih0 _ _ _ _
    | exact ih1 _ _ _ _ _ _ _ _ _
    | exact LeO.none _
    | refine LeO.ite ?_ ?_
    | refine LeO.bind ?_ (fun _ => ?_)
theorem Zm.mono : ∀ a0 k,LeO (Zm.f k a0) (Zm.f (k + 1) a0) := by
 intro a0 k; obtain ⟨ih0,ih1⟩ := Zm.Xq k; unfold Zm.f
 repeat' first
  | (with_reducible exact ih0 _ _ _ _)
  | (with_reducible exact ih1 _ _ _ _ _ _ _ _ _)
  | (with_reducible exact LeO.refl _)
  | (with_reducible exact LeO.none _)
  | (with_reducible refine LeO.ite ?_ ?_)
  | (with_reducible refine LeO.bind ?_ (fun _ => ?_))
  | exact ih0 _ _ _ _
  | exact ih1 _ _ _ _ _ _ _ _ _
  | exact LeO.none _
  | refine LeO.ite ?_ ?_
  | refine LeO.bind ?_ (fun _ => ?_)
def Zm.T6 : Bool × List (List Nat × List Nat) := (true,[([],[]),([0],[0]),([1],[1]),([2],[2]),([3,2],[3]),([4],[4]),([5,4],[4,5]),([6,4,4],[4,6]),([7,4],[4,7]),([4,8],[4,8]),([9,7],[9]),([10],[10]),([11,10],[10,11]),([12,10,10],[10,12]),([13,10],[10,13]),([10,14],[10,14]),([15,13],[15]),([16],[16]),([17,16],[16,17]),([18,16,16],[16,18]),([19],[19]),([19],[19]),([21,19],[19,21]),([20,22,19],[19,20,22]),([23,19],[19,23]),([24,19],[19,24]),([19],[19]),([26,19],[19,26]),([25,27,19],[19,25,27]),([19,28,16],[16,19,28]),([16,29],[16,29])])
def Zm.B6 : List Nat := [0,1,3,7,15,31,63,127,255,511,1023,2047,4095,8191,16383,32767,65535,131071,262143,524287,1048575,1048575,3145727,8388607,16777215,33554431,1048575,68157439,268435455,536870911,1073741823]
theorem Zm.tab6 : rtab .any (opsOf Try.f36 6) = Zm.T6 := by kernel_rfl
theorem Zm.bits6 : waitsOk Zm.T6.2 Zm.B6 = true := by kernel_rfl
def Zm.T8 : Bool × List (List Nat × List Nat) := (true,[([],[]),([0],[0]),([1],[1]),([2],[2]),([3],[3]),([4,3],[3,4]),([3],[3]),([6,3],[3,6]),([5,7,3],[3,5,7]),([3,8],[3,8]),([9,3],[9]),([10],[10]),([10],[10]),([12,10],[10,12]),([11,13,10],[10,11,13]),([14,10],[10,14]),([15,10],[10,15]),([10],[10]),([17,10],[10,17]),([16,18,10],[10,16,18]),([19,10],[10,19]),([10,20],[10,20])])
def Zm.B8 : List Nat := [0,1,3,7,15,31,15,79,255,511,1023,2047,2047,6143,16383,32767,65535,2047,133119,524287,1048575,2097151]
theorem Zm.tab8 : rtab .any (opsOf Try.f36 8) = Zm.T8 := by kernel_rfl
theorem Zm.bits8 : waitsOk Zm.T8.2 Zm.B8 = true := by kernel_rfl
set_option maxHeartbeats 8000000 in
set_option maxRecDepth 100000 in
theorem Zm.calls (k : Nat) (A0 : Option Addr) (c0 : Nat) (l0 : List (S56)) (r : Bool) (w : World) (hr0 : Kd.C k56 w A0 l0.length l0) (hc0 : l0.length ≤ c0) (h : Zm.f k l0 = some r) :
 Calls Try.prog 36 #[.slice A0 l0.length c0] w fun e w' => e = .returned (.bool r) ∧ Below w.heap.size w w' := by
 have hu56 := Try.underlying56; have HR0 := Zc.mk hr0; have HC0 := Zc.mk hc0; clear hr0 hc0; have HB := Zc.mk (Below.refl w.heap.size w); have H : ((Z6.f (l0.length : Int) 1 100).bind fun t356 => (if t356 = true then (Zm.l0 k l0 l0 (l0.length : Int) 0) else (some false))) = some r := h; clear h; replace H := Option.bind_eq_some_iff.mp H; obtain ⟨t356,A20,H⟩ := H; replace H : (if t356 = true then (Zm.l0 k l0 l0 (l0.length : Int) 0) else (some false)) = some r := H; have A2 := Zc.mk A20; clear A20
 by_cases c3 : t356 = true
 · subst c3
   have H1 : (Zm.l0 k l0 l0 (l0.length : Int) 0) = some r := by rw [if_pos rfl] at H; exact H
   clear H; have H := H1; clear H1; have H' := Zc.mk H; clear H
   go_enter Try.func36,Try.ntmps36
   go_wp2_with (first | ((with_reducible refine Z1 (f := 43) rfl ?_); refine ZQ (some 7) rfl rfl Try.func43 (by kernel_rfl) rfl #[.int .i64 (l0.length : Int),.int .i64 1,.int .i64 100] rfl (by (try simp only [List.map_toArray,List.map_cons,List.map_nil]); first | done | rfl | (simp only [List.length_drop,List.length_take]; rfl)) ?_; (with_reducible refine (Z6.calls (l0.length : Int) 1 100 true _ A2.out).mono ?_); rintro e w' ⟨rfl,⟨nd,rfl⟩⟩; refine ⟨_,rfl,?_⟩))
   go_loopg [11] k (fun kq v11 w' => ∃ (x11_1 : Int),v11 = .int .i64 x11_1 ∧ Zc (Zm.l0 kq l0 l0 (l0.length : Int) x11_1 = some r) ∧ Zc (kq ≤ k) ∧ Zc (Below w.heap.size w w'))
   case atStart => exact ⟨(0),(by first | rfl | (simp; done) | (simp [*]; done)),H',⟨Nat.le_refl _⟩,⟨by repeat (first | (with_reducible first | exact HB.out | apply Zd | apply Za | apply Zb) | exact HB.out)⟩⟩
   case round =>
    clear H'
    (try clear p2); (try clear c3)
    obtain ⟨x11_1,rfl,HA,HK1,HB⟩ := hrel
    cases gk with
    | zero => exact absurd HA.out (by simp [Zm.l0])
    | succ k1 =>
     have H := HA.out; clear HA; simp only [Zm.l0] at H
     by_cases c4 : x11_1 < (l0.length : Int)
     · rw [if_pos c4] at H
       have c4b0 : decide (x11_1 < (l0.length : Int)) = true := decide_eq_true c4; clear c4
       by_cases c5 : 0 ≤ x11_1
       · rw [if_pos c5] at H
         have c5b0 : decide (0 ≤ x11_1) = true := decide_eq_true c5; clear c5
         by_cases c6 : x11_1 < (l0.length : Int)
         · rw [if_pos c6] at H
           have c6b0 : decide (x11_1 < (l0.length : Int)) = true := decide_eq_true c6; clear c6; have HC7 := Zc.mk H; clear H; have p357 : 0 ≤ (x11_1 : Int) := of_decide_eq_true (by first | (with_reducible assumption) | assumption); have q357 : x11_1 < (l0.length : Int) := of_decide_eq_true (by first | (with_reducible assumption) | assumption); obtain ⟨ad357,e357,hx357_0,hx357_1,hx357_2⟩ := Xx HR0.out x11_1 p357 q357
           cases e357
           replace hx357_0 := (HB.out.cell (World.block_lt_of_cell? w _ hx357_0)).trans hx357_0; replace hx357_1 := (HB.out.cell (World.block_lt_of_cell? w _ hx357_1)).trans hx357_1; replace hx357_2 := (HB.out.cell (World.block_lt_of_cell? w _ hx357_2)).trans hx357_2; replace p357 := eq_true p357; replace q357 := eq_true q357
           go_upto_region 6 with (first | ((with_reducible refine Xr (N := 4) rfl ?_); (try (refine XD (by rfl) ?_; dsimp only)); refine X2 ?hg (N := 4) ?hd (cs := #[.int .i64 0,.int .i64 0,.int .i64 0]) (t := 56) ?hr ?_; (case hd => rfl); (case hg => rfl); (case hr => first | (go_simp; done) | (go_simp; rfl)); intro gb358 hg w8 hbox hb; have n0_ := Zc.mk (Z3 (by repeat (first | (with_reducible first | exact HB.out | apply Zd | apply Za | apply Zb) | exact HB.out)) hb); have n1_ := Zc.mk (hbox); have n2_ := Zc.mk ((by rw [hg]; exact (ZH (by repeat (first | (with_reducible first | exact HB.out | apply Zd | apply Za | apply Zb) | exact HB.out))) : w.heap.size ≤ gb358)); have n3_ := Zc.mk ((by rw [hg]; exact (ZH (by repeat (first | (with_reducible first | exact HB.out | apply Zd | apply Za | apply Zb) | exact HB.out))) : w.heap.size ≤ gb358)); clear HB; have HB := n0_; have BK358 := n1_; have GW358 := n2_; have GE358 := n3_; clear n0_ n1_ n2_ n3_; clear hb hbox hg; have hcz9_0 : w8.cell? ⟨gb358,0,none⟩ = some (.int .i64 0) := (Zn BK358.out 0).trans rfl; have hcz9_1 : w8.cell? ⟨gb358,1,none⟩ = some (.int .i64 0) := (Zn BK358.out 1).trans rfl; have hcz9_2 : w8.cell? ⟨gb358,2,none⟩ = some (.int .i64 0) := (Zn BK358.out 2).trans rfl; have hfz9_0 := Zz BK358.out 0; have hfz9_1 := Zz BK358.out 1; have hfz9_2 := Zz BK358.out 2))
           (try simp only [Act.put,YD,YE,YF])
           go_cut [46] (fun v46 wc => ∃ (kq : Nat) (x46_6 : Bool),v46 = .bool x46_6 ∧ Zc (Zm.j1 kq l0 x11_1 l0 (l0.length : Int) x11_1 x46_6 ((Zg l0 x11_1).f0) ((Zg l0 x11_1).f1) ((Zg l0 x11_1).f2) = some r) ∧ Zc (kq ≤ k1) ∧ Zc (wc.heap[gb358]? = some (.cells #[.int .i64 ((Zg l0 x11_1).f0),.int .i64 ((Zg l0 x11_1).f1),.int .i64 ((Zg l0 x11_1).f2)] 56 (0,0))) ∧ Zc (Below w.heap.size w wc))
           case first =>
            have H := HC7.out; clear HC7; replace H := Option.bind_eq_some_iff.mp H; obtain ⟨t359,A100,H⟩ := H; replace H : (if t359 = true then ((Z6.f ((Zg l0 x11_1).f1) (-8388607) 8388607).bind fun t360 => (if t360 = true then ((Z6.f ((Zg l0 x11_1).f2) 0 2).bind fun t361 => (if t361 = true then (if x11_1 > 0 then (if 0 ≤ (wrap64 (x11_1 - 1)) then (if (wrap64 (x11_1 - 1)) < (l0.length : Int) then (Zm.j1 k1 l0 x11_1 l0 (l0.length : Int) x11_1 (decide (((Zg l0 (wrap64 (x11_1 - 1))).f0) ≥ ((Zg l0 x11_1).f0))) ((Zg l0 x11_1).f0) ((Zg l0 x11_1).f1) ((Zg l0 x11_1).f2)) else (none)) else (none)) else (Zm.j1 k1 l0 x11_1 l0 (l0.length : Int) x11_1 false ((Zg l0 x11_1).f0) ((Zg l0 x11_1).f1) ((Zg l0 x11_1).f2))) else (Zm.j1 k1 l0 x11_1 l0 (l0.length : Int) x11_1 true ((Zg l0 x11_1).f0) ((Zg l0 x11_1).f1) ((Zg l0 x11_1).f2)))) else (Zm.j1 k1 l0 x11_1 l0 (l0.length : Int) x11_1 true ((Zg l0 x11_1).f0) ((Zg l0 x11_1).f1) ((Zg l0 x11_1).f2)))) else (Zm.j1 k1 l0 x11_1 l0 (l0.length : Int) x11_1 true ((Zg l0 x11_1).f0) ((Zg l0 x11_1).f1) ((Zg l0 x11_1).f2))) = some r := H; have A10 := Zc.mk A100; clear A100
            by_cases c11 : t359 = true
            · subst c11
              have H1 : ((Z6.f ((Zg l0 x11_1).f1) (-8388607) 8388607).bind fun t360 => (if t360 = true then ((Z6.f ((Zg l0 x11_1).f2) 0 2).bind fun t361 => (if t361 = true then (if x11_1 > 0 then (if 0 ≤ (wrap64 (x11_1 - 1)) then (if (wrap64 (x11_1 - 1)) < (l0.length : Int) then (Zm.j1 k1 l0 x11_1 l0 (l0.length : Int) x11_1 (decide (((Zg l0 (wrap64 (x11_1 - 1))).f0) ≥ ((Zg l0 x11_1).f0))) ((Zg l0 x11_1).f0) ((Zg l0 x11_1).f1) ((Zg l0 x11_1).f2)) else (none)) else (none)) else (Zm.j1 k1 l0 x11_1 l0 (l0.length : Int) x11_1 false ((Zg l0 x11_1).f0) ((Zg l0 x11_1).f1) ((Zg l0 x11_1).f2))) else (Zm.j1 k1 l0 x11_1 l0 (l0.length : Int) x11_1 true ((Zg l0 x11_1).f0) ((Zg l0 x11_1).f1) ((Zg l0 x11_1).f2)))) else (Zm.j1 k1 l0 x11_1 l0 (l0.length : Int) x11_1 true ((Zg l0 x11_1).f0) ((Zg l0 x11_1).f1) ((Zg l0 x11_1).f2)))) = some r := by rw [if_pos rfl] at H; exact H
              clear H; have H := H1; clear H1; replace H := Option.bind_eq_some_iff.mp H; obtain ⟨t360,A120,H⟩ := H; replace H : (if t360 = true then ((Z6.f ((Zg l0 x11_1).f2) 0 2).bind fun t361 => (if t361 = true then (if x11_1 > 0 then (if 0 ≤ (wrap64 (x11_1 - 1)) then (if (wrap64 (x11_1 - 1)) < (l0.length : Int) then (Zm.j1 k1 l0 x11_1 l0 (l0.length : Int) x11_1 (decide (((Zg l0 (wrap64 (x11_1 - 1))).f0) ≥ ((Zg l0 x11_1).f0))) ((Zg l0 x11_1).f0) ((Zg l0 x11_1).f1) ((Zg l0 x11_1).f2)) else (none)) else (none)) else (Zm.j1 k1 l0 x11_1 l0 (l0.length : Int) x11_1 false ((Zg l0 x11_1).f0) ((Zg l0 x11_1).f1) ((Zg l0 x11_1).f2))) else (Zm.j1 k1 l0 x11_1 l0 (l0.length : Int) x11_1 true ((Zg l0 x11_1).f0) ((Zg l0 x11_1).f1) ((Zg l0 x11_1).f2)))) else (Zm.j1 k1 l0 x11_1 l0 (l0.length : Int) x11_1 true ((Zg l0 x11_1).f0) ((Zg l0 x11_1).f1) ((Zg l0 x11_1).f2))) = some r := H; have A12 := Zc.mk A120; clear A120
              by_cases c13 : t360 = true
              · subst c13
                have H1 : ((Z6.f ((Zg l0 x11_1).f2) 0 2).bind fun t361 => (if t361 = true then (if x11_1 > 0 then (if 0 ≤ (wrap64 (x11_1 - 1)) then (if (wrap64 (x11_1 - 1)) < (l0.length : Int) then (Zm.j1 k1 l0 x11_1 l0 (l0.length : Int) x11_1 (decide (((Zg l0 (wrap64 (x11_1 - 1))).f0) ≥ ((Zg l0 x11_1).f0))) ((Zg l0 x11_1).f0) ((Zg l0 x11_1).f1) ((Zg l0 x11_1).f2)) else (none)) else (none)) else (Zm.j1 k1 l0 x11_1 l0 (l0.length : Int) x11_1 false ((Zg l0 x11_1).f0) ((Zg l0 x11_1).f1) ((Zg l0 x11_1).f2))) else (Zm.j1 k1 l0 x11_1 l0 (l0.length : Int) x11_1 true ((Zg l0 x11_1).f0) ((Zg l0 x11_1).f1) ((Zg l0 x11_1).f2)))) = some r := by rw [if_pos rfl] at H; exact H
                clear H; have H := H1; clear H1; replace H := Option.bind_eq_some_iff.mp H; obtain ⟨t361,A140,H⟩ := H; replace H : (if t361 = true then (if x11_1 > 0 then (if 0 ≤ (wrap64 (x11_1 - 1)) then (if (wrap64 (x11_1 - 1)) < (l0.length : Int) then (Zm.j1 k1 l0 x11_1 l0 (l0.length : Int) x11_1 (decide (((Zg l0 (wrap64 (x11_1 - 1))).f0) ≥ ((Zg l0 x11_1).f0))) ((Zg l0 x11_1).f0) ((Zg l0 x11_1).f1) ((Zg l0 x11_1).f2)) else (none)) else (none)) else (Zm.j1 k1 l0 x11_1 l0 (l0.length : Int) x11_1 false ((Zg l0 x11_1).f0) ((Zg l0 x11_1).f1) ((Zg l0 x11_1).f2))) else (Zm.j1 k1 l0 x11_1 l0 (l0.length : Int) x11_1 true ((Zg l0 x11_1).f0) ((Zg l0 x11_1).f1) ((Zg l0 x11_1).f2))) = some r := H; have A14 := Zc.mk A140; clear A140
                by_cases c15 : t361 = true
                · subst c15
                  have H1 : (if x11_1 > 0 then (if 0 ≤ (wrap64 (x11_1 - 1)) then (if (wrap64 (x11_1 - 1)) < (l0.length : Int) then (Zm.j1 k1 l0 x11_1 l0 (l0.length : Int) x11_1 (decide (((Zg l0 (wrap64 (x11_1 - 1))).f0) ≥ ((Zg l0 x11_1).f0))) ((Zg l0 x11_1).f0) ((Zg l0 x11_1).f1) ((Zg l0 x11_1).f2)) else (none)) else (none)) else (Zm.j1 k1 l0 x11_1 l0 (l0.length : Int) x11_1 false ((Zg l0 x11_1).f0) ((Zg l0 x11_1).f1) ((Zg l0 x11_1).f2))) = some r := by rw [if_pos rfl] at H; exact H
                  clear H; have H := H1; clear H1
                  by_cases c16 : x11_1 > 0
                  · rw [if_pos c16] at H
                    have c16b0 : decide (0 < x11_1) = true := decide_eq_true c16; clear c16
                    (first | rw [c16b0] | (simp only [i64_w,i32_w]; rw [c16b0]) | skip)
                    obtain ⟨ji17,hji17⟩ : ∃ j_ : Int,(wrap64 (x11_1 - 1)) = j_ := ⟨_,rfl⟩
                    replace H : (if 0 ≤ (ji17) then (if (ji17) < (l0.length : Int) then (Zm.j1 k1 l0 x11_1 l0 (l0.length : Int) x11_1 (decide (((Zg l0 (ji17)).f0) ≥ ((Zg l0 x11_1).f0))) ((Zg l0 x11_1).f0) ((Zg l0 x11_1).f1) ((Zg l0 x11_1).f2)) else (none)) else (none)) = some r := by first | (rw [hji17] at H; exact H) | (simp only [hji17] at H ⊢; exact H)
                    (try rw [hji17] at A10)
                    (try rw [hji17] at A12)
                    (try rw [hji17] at A14)
                    have hji17w : (IntKind.i64.wrap (x11_1 - 1)) = ji17 := (i64_w _).trans hji17
                    by_cases c18 : 0 ≤ (ji17)
                    · rw [if_pos c18] at H
                      have c18b0 : decide (0 ≤ (ji17)) = true := decide_eq_true c18; clear c18
                      by_cases c19 : (ji17) < (l0.length : Int)
                      · rw [if_pos c19] at H
                        have c19b0 : decide ((ji17) < (l0.length : Int)) = true := decide_eq_true c19; clear c19; have H' := Zc.mk H; clear H
                        try go_wp2
                        have n0_ : Zc ((((w8.setCell ⟨gb358,0,none⟩ (.int .i64 ((Zg l0 x11_1).f0))).setCell ⟨gb358,1,none⟩ (.int .i64 ((Zg l0 x11_1).f1))).setCell ⟨gb358,2,none⟩ (.int .i64 ((Zg l0 x11_1).f2))).heap[gb358]? = some (.cells #[.int .i64 ((Zg l0 x11_1).f0),.int .i64 ((Zg l0 x11_1).f1),.int .i64 ((Zg l0 x11_1).f2)] 56 (0,0))) := ⟨by (with_reducible repeat (first | refine Zy ?_ _ | refine Z0 ?_ | refine Zx ?_ _)); refine ZJ (cs := #[.int .i64 ((Zg l0 x11_1).f0),.int .i64 ((Zg l0 x11_1).f1),.int .i64 0]) ?_ 2 _ rfl; (with_reducible repeat (first | refine Zy ?_ _ | refine Z0 ?_ | refine Zx ?_ _)); refine ZJ (cs := #[.int .i64 ((Zg l0 x11_1).f0),.int .i64 0,.int .i64 0]) ?_ 1 _ rfl; (with_reducible repeat (first | refine Zy ?_ _ | refine Z0 ?_ | refine Zx ?_ _)); refine ZJ (cs := #[.int .i64 0,.int .i64 0,.int .i64 0]) ?_ 0 _ rfl; (with_reducible repeat (first | refine Zy ?_ _ | refine Z0 ?_ | refine Zx ?_ _)); exact BK358.out⟩
                        have n1_ : Zc (Below w.heap.size w (((w8.setCell ⟨gb358,0,none⟩ (.int .i64 ((Zg l0 x11_1).f0))).setCell ⟨gb358,1,none⟩ (.int .i64 ((Zg l0 x11_1).f1))).setCell ⟨gb358,2,none⟩ (.int .i64 ((Zg l0 x11_1).f2)))) := ⟨by repeat (first | (with_reducible first | exact HB.out | apply Zd | apply Za | apply Zb | refine ZK ?_ GE358.out) | exact HB.out)⟩
                        (try clear BK358)
                        (try clear HB)
                        generalize (((w8.setCell ⟨gb358,0,none⟩ (.int .i64 ((Zg l0 x11_1).f0))).setCell ⟨gb358,1,none⟩ (.int .i64 ((Zg l0 x11_1).f1))).setCell ⟨gb358,2,none⟩ (.int .i64 ((Zg l0 x11_1).f2))) = w20 at n0_ n1_ ⊢; have BK358 := n0_; have HB := n1_; clear n0_ n1_; have n0_ := Zc.mk (Z0 BK358.out); have n1_ := Zc.mk (Zb HB.out); clear BK358; clear HB; have BK358 := n0_; have HB := n1_; clear n0_ n1_; have p362 : 0 ≤ ((ji17) : Int) := of_decide_eq_true (by first | (with_reducible assumption) | assumption); have q362 : (ji17) < (l0.length : Int) := of_decide_eq_true (by first | (with_reducible assumption) | assumption); obtain ⟨ad362,e362,hx362_0,hx362_1,hx362_2⟩ := Xx HR0.out (ji17) p362 q362; have hw362_2 := hx362_2; have hw362_1 := hx362_1; have hw362_0 := hx362_0
                        obtain rfl : ad357 = ad362 := (by injection e362)
                        replace hx362_0 := (HB.out.cell (World.block_lt_of_cell? w _ hx362_0)).trans hx362_0; replace hx362_1 := (HB.out.cell (World.block_lt_of_cell? w _ hx362_1)).trans hx362_1; replace hx362_2 := (HB.out.cell (World.block_lt_of_cell? w _ hx362_2)).trans hx362_2; replace p362 := eq_true p362; replace q362 := eq_true q362; refine XC (n := 31) (S := fun w' => w'.cell? ⟨gb358,0,none⟩ = some (.int .i64 ((Zg l0 x11_1).f0)) ∧ w'.cell? ⟨gb358,1,none⟩ = some (.int .i64 ((Zg l0 x11_1).f1)) ∧ w'.cell? ⟨gb358,2,none⟩ = some (.int .i64 ((Zg l0 x11_1).f2)) ∧ w'.cell? (ad357.add (((ji17)).toNat * 3)) = some (.int .i64 ((Zg l0 (ji17)).f0)) ∧ w'.cell? ⟨(ad357.add (((ji17)).toNat * 3)).block,(ad357.add (((ji17)).toNat * 3)).off + 1,none⟩ = some (.int .i64 ((Zg l0 (ji17)).f1)) ∧ w'.cell? ⟨(ad357.add (((ji17)).toNat * 3)).block,(ad357.add (((ji17)).toNat * 3)).off + 2,none⟩ = some (.int .i64 ((Zg l0 (ji17)).f2))) (ds := []) #[G,G,G,G,G,G,G,G,G,G,G,G,G,G,G,G,G,G,G,G,G,G,G,G,G,G,G,G,G,G,G] (by kernel_rfl) rfl rfl ⟨(Zn BK358.out 0).trans rfl,(Zn BK358.out 1).trans rfl,(Zn BK358.out 2).trans rfl,((HB.out.cell (World.block_lt_of_cell? w _ hw362_0)).trans hw362_0),((HB.out.cell (World.block_lt_of_cell? w _ hw362_1)).trans hw362_1),((HB.out.cell (World.block_lt_of_cell? w _ hw362_2)).trans hw362_2)⟩ (fun hHeld => ?_); refine X1 Zm.tab6 Zm.bits6 (fun HT_ HW_ => ?_); generalize w20.drew = w21 at BK358 HB hx362_0 hx362_1 hx362_2 hHeld ⊢; refine pure_ (i := 0) (N := some 16) (v := ?_) (a' := ?_) #[O,G,G,G,G,G,G,G,G,G,G,G,G,G,G,G,G,G,G,G,G,G,G,G,G,G,G,G,G,G,G] rfl rfl (Zp HT_.out (by kernel_rfl)) (fun _ _ _ h => h) (Or.inl ⟨by rfl,?_⟩) ?_ ?_; rotate_left
                        · intro w'
                          go_simp; with_reducible rfl
                        rotate_left
                        · simp only [Act.put,YD,YE,YF,i64_w,i32_w]
                          rfl
                        refine take_ (i := 1) (N := some 17) (v := ?_) (a' := ?_) #[O,O,G,G,G,G,G,G,G,G,G,G,G,G,G,G,G,G,G,G,G,G,G,G,G,G,G,G,G,G,G] rfl rfl (Xe HT_.out HW_.out (by kernel_rfl)) (fun _ _ _ h => h) (Or.inl ⟨by rfl,?_⟩) hHeld ?_ ?_; rotate_left
                        · rintro w' ⟨s0,s1,s2,s3,s4,s5⟩
                          go_simp; with_reducible rfl
                        rotate_left
                        · simp only [Act.put,YD,YE,YF,i64_w,i32_w]
                          rfl
                        refine one_ (i := 2) (N := some 18) #[O,O,O,G,G,G,G,G,G,G,G,G,G,G,G,G,G,G,G,G,G,G,G,G,G,G,G,G,G,G,G] rfl rfl (X4 HT_.out (by kernel_rfl)) (by decide) (fun K hK => ?_); refine goes_ Try.func43 (by kernel_rfl) rfl #[.int .i64 ((Zg l0 x11_1).f0),.int .i64 0,.int .i64 1000000000] (by rfl) rfl rfl (by (try simp only [List.map_toArray,List.map_cons,List.map_nil]); first | done | rfl | (simp only [List.length_drop,List.length_take]; rfl)) ?_
                        with_reducible refine (Z6.calls ((Zg l0 x11_1).f0) 0 1000000000 true _ A10.out).mono ?_
                        rintro e w' ⟨rfl,⟨nd,rfl⟩⟩; refine ⟨_,rfl,?_⟩; refine hK.out _ _ ⟨(Zn BK358.out 0).trans rfl,(Zn BK358.out 1).trans rfl,(Zn BK358.out 2).trans rfl,((HB.out.cell (World.block_lt_of_cell? w _ hw362_0)).trans hw362_0),((HB.out.cell (World.block_lt_of_cell? w _ hw362_1)).trans hw362_1),((HB.out.cell (World.block_lt_of_cell? w _ hw362_2)).trans hw362_2)⟩ (fun hHeld => ?_); clear hK K; refine norm_ (a' := ?_) ?_ ?_; rotate_left
                        · show Act.put _ (some 18) _ = _
                          simp only [Act.put,YD,YE,YF,i64_w,i32_w]; rfl
                        refine pure_ (i := 3) (N := some 19) (v := ?_) (a' := ?_) #[O,O,O,O,G,G,G,G,G,G,G,G,G,G,G,G,G,G,G,G,G,G,G,G,G,G,G,G,G,G,G] rfl rfl (Zp HT_.out (by kernel_rfl)) (fun _ _ _ h => h) (Or.inl ⟨by rfl,?_⟩) ?_ ?_; rotate_left
                        · intro w'
                          go_simp; with_reducible rfl
                        rotate_left
                        · simp only [Act.put,YD,YE,YF,i64_w,i32_w]
                          rfl
                        refine pure_ (i := 4) (N := some 20) (v := ?_) (a' := ?_) #[O,O,O,O,O,G,G,G,G,G,G,G,G,G,G,G,G,G,G,G,G,G,G,G,G,G,G,G,G,G,G] rfl rfl (Zp HT_.out (by kernel_rfl)) (fun _ _ _ h => h) (Or.inl ⟨by rfl,?_⟩) ?_ ?_; rotate_left
                        · intro w'
                          go_simp; with_reducible rfl
                        rotate_left
                        · simp only [Act.put,YD,YE,YF,i64_w,i32_w]
                          rfl
                        refine pure_ (i := 5) (N := some 21) (v := ?_) (a' := ?_) #[O,O,O,O,O,O,G,G,G,G,G,G,G,G,G,G,G,G,G,G,G,G,G,G,G,G,G,G,G,G,G] rfl rfl (Zp HT_.out (by kernel_rfl)) (fun _ _ _ h => h) (Or.inl ⟨by rfl,?_⟩) ?_ ?_; rotate_left
                        · intro w'
                          go_simp; with_reducible rfl
                        rotate_left
                        · simp only [Act.put,YD,YE,YF,i64_w,i32_w]
                          rfl
                        refine take_ (i := 6) (N := some 22) (v := ?_) (a' := ?_) #[O,O,O,O,O,O,O,G,G,G,G,G,G,G,G,G,G,G,G,G,G,G,G,G,G,G,G,G,G,G,G] rfl rfl (Xe HT_.out HW_.out (by kernel_rfl)) (fun _ _ _ h => h) (Or.inl ⟨by rfl,?_⟩) hHeld ?_ ?_; rotate_left
                        · rintro w' ⟨s0,s1,s2,s3,s4,s5⟩
                          go_simp; with_reducible rfl
                        rotate_left
                        · simp only [Act.put,YD,YE,YF,i64_w,i32_w]
                          rfl
                        refine one_ (i := 7) (N := some 23) #[O,O,O,O,O,O,O,O,G,G,G,G,G,G,G,G,G,G,G,G,G,G,G,G,G,G,G,G,G,G,G] rfl rfl (X4 HT_.out (by kernel_rfl)) (by decide) (fun K hK => ?_); refine goes_ Try.func43 (by kernel_rfl) rfl #[.int .i64 ((Zg l0 x11_1).f1),.int .i64 (-8388607),.int .i64 8388607] (by rfl) rfl rfl (by (try simp only [List.map_toArray,List.map_cons,List.map_nil]); first | done | rfl | (simp only [List.length_drop,List.length_take]; rfl)) ?_
                        with_reducible refine (Z6.calls ((Zg l0 x11_1).f1) (-8388607) 8388607 true _ A12.out).mono ?_
                        rintro e w' ⟨rfl,⟨nd,rfl⟩⟩; refine ⟨_,rfl,?_⟩; refine hK.out _ _ ⟨(Zn BK358.out 0).trans rfl,(Zn BK358.out 1).trans rfl,(Zn BK358.out 2).trans rfl,((HB.out.cell (World.block_lt_of_cell? w _ hw362_0)).trans hw362_0),((HB.out.cell (World.block_lt_of_cell? w _ hw362_1)).trans hw362_1),((HB.out.cell (World.block_lt_of_cell? w _ hw362_2)).trans hw362_2)⟩ (fun hHeld => ?_); clear hK K; refine norm_ (a' := ?_) ?_ ?_; rotate_left
                        · show Act.put _ (some 23) _ = _
                          simp only [Act.put,YD,YE,YF,i64_w,i32_w]; rfl
                        refine pure_ (i := 8) (N := some 24) (v := ?_) (a' := ?_) #[O,O,O,O,O,O,O,O,O,G,G,G,G,G,G,G,G,G,G,G,G,G,G,G,G,G,G,G,G,G,G] rfl rfl (Zp HT_.out (by kernel_rfl)) (fun _ _ _ h => h) (Or.inl ⟨by rfl,?_⟩) ?_ ?_; rotate_left
                        · intro w'
                          go_simp; with_reducible rfl
                        rotate_left
                        · simp only [Act.put,YD,YE,YF,i64_w,i32_w]
                          rfl
                        refine pure_ (i := 9) (N := some 25) (v := ?_) (a' := ?_) #[O,O,O,O,O,O,O,O,O,O,G,G,G,G,G,G,G,G,G,G,G,G,G,G,G,G,G,G,G,G,G] rfl rfl (Zp HT_.out (by kernel_rfl)) (fun _ _ _ h => h) (Or.inl ⟨by rfl,?_⟩) ?_ ?_; rotate_left
                        · intro w'
                          go_simp; with_reducible rfl
                        rotate_left
                        · simp only [Act.put,YD,YE,YF,i64_w,i32_w]
                          rfl
                        refine pure_ (i := 10) (N := some 26) (v := ?_) (a' := ?_) #[O,O,O,O,O,O,O,O,O,O,O,G,G,G,G,G,G,G,G,G,G,G,G,G,G,G,G,G,G,G,G] rfl rfl (Zp HT_.out (by kernel_rfl)) (fun _ _ _ h => h) (Or.inl ⟨by rfl,?_⟩) ?_ ?_; rotate_left
                        · intro w'
                          go_simp; with_reducible rfl
                        rotate_left
                        · simp only [Act.put,YD,YE,YF,i64_w,i32_w]
                          rfl
                        refine pure_ (i := 11) (N := some 27) (v := ?_) (a' := ?_) #[O,O,O,O,O,O,O,O,O,O,O,O,G,G,G,G,G,G,G,G,G,G,G,G,G,G,G,G,G,G,G] rfl rfl (Zp HT_.out (by kernel_rfl)) (fun _ _ _ h => h) (Or.inl ⟨by rfl,?_⟩) ?_ ?_; rotate_left
                        · intro w'
                          go_simp; with_reducible rfl
                        rotate_left
                        · simp only [Act.put,YD,YE,YF,i64_w,i32_w]
                          rfl
                        refine take_ (i := 12) (N := some 28) (v := ?_) (a' := ?_) #[O,O,O,O,O,O,O,O,O,O,O,O,O,G,G,G,G,G,G,G,G,G,G,G,G,G,G,G,G,G,G] rfl rfl (Xe HT_.out HW_.out (by kernel_rfl)) (fun _ _ _ h => h) (Or.inl ⟨by rfl,?_⟩) hHeld ?_ ?_; rotate_left
                        · rintro w' ⟨s0,s1,s2,s3,s4,s5⟩
                          go_simp; with_reducible rfl
                        rotate_left
                        · simp only [Act.put,YD,YE,YF,i64_w,i32_w]
                          rfl
                        refine one_ (i := 13) (N := some 29) #[O,O,O,O,O,O,O,O,O,O,O,O,O,O,G,G,G,G,G,G,G,G,G,G,G,G,G,G,G,G,G] rfl rfl (X4 HT_.out (by kernel_rfl)) (by decide) (fun K hK => ?_); refine goes_ Try.func43 (by kernel_rfl) rfl #[.int .i64 ((Zg l0 x11_1).f2),.int .i64 0,.int .i64 2] (by rfl) rfl rfl (by (try simp only [List.map_toArray,List.map_cons,List.map_nil]); first | done | rfl | (simp only [List.length_drop,List.length_take]; rfl)) ?_
                        with_reducible refine (Z6.calls ((Zg l0 x11_1).f2) 0 2 true _ A14.out).mono ?_
                        rintro e w' ⟨rfl,⟨nd,rfl⟩⟩; refine ⟨_,rfl,?_⟩; refine hK.out _ _ ⟨(Zn BK358.out 0).trans rfl,(Zn BK358.out 1).trans rfl,(Zn BK358.out 2).trans rfl,((HB.out.cell (World.block_lt_of_cell? w _ hw362_0)).trans hw362_0),((HB.out.cell (World.block_lt_of_cell? w _ hw362_1)).trans hw362_1),((HB.out.cell (World.block_lt_of_cell? w _ hw362_2)).trans hw362_2)⟩ (fun hHeld => ?_); clear hK K; refine norm_ (a' := ?_) ?_ ?_; rotate_left
                        · show Act.put _ (some 29) _ = _
                          simp only [Act.put,YD,YE,YF,i64_w,i32_w]; rfl
                        refine pure_ (i := 14) (N := some 30) (v := ?_) (a' := ?_) #[O,O,O,O,O,O,O,O,O,O,O,O,O,O,O,G,G,G,G,G,G,G,G,G,G,G,G,G,G,G,G] rfl rfl (Zp HT_.out (by kernel_rfl)) (fun _ _ _ h => h) (Or.inl ⟨by rfl,?_⟩) ?_ ?_; rotate_left
                        · intro w'
                          go_simp; with_reducible rfl
                        rotate_left
                        · simp only [Act.put,YD,YE,YF,i64_w,i32_w]
                          rfl
                        refine pure_ (i := 15) (N := some 31) (v := ?_) (a' := ?_) #[O,O,O,O,O,O,O,O,O,O,O,O,O,O,O,O,G,G,G,G,G,G,G,G,G,G,G,G,G,G,G] rfl rfl (Zp HT_.out (by kernel_rfl)) (fun _ _ _ h => h) (Or.inl ⟨by rfl,?_⟩) ?_ ?_; rotate_left
                        · intro w'
                          go_simp; with_reducible rfl
                        rotate_left
                        · simp only [Act.put,YD,YE,YF,i64_w,i32_w]
                          rfl
                        refine pure_ (i := 16) (N := some 32) (v := ?_) (a' := ?_) #[O,O,O,O,O,O,O,O,O,O,O,O,O,O,O,O,O,G,G,G,G,G,G,G,G,G,G,G,G,G,G] rfl rfl (Zp HT_.out (by kernel_rfl)) (fun _ _ _ h => h) (Or.inl ⟨by rfl,?_⟩) ?_ ?_; rotate_left
                        · intro w'
                          go_simp; with_reducible rfl
                        rotate_left
                        · simp only [Act.put,YD,YE,YF,i64_w,i32_w]
                          rfl
                        refine pure_ (i := 17) (N := some 33) (v := ?_) (a' := ?_) #[O,O,O,O,O,O,O,O,O,O,O,O,O,O,O,O,O,O,G,G,G,G,G,G,G,G,G,G,G,G,G] rfl rfl (Zp HT_.out (by kernel_rfl)) (fun _ _ _ h => h) (Or.inl ⟨by rfl,?_⟩) ?_ ?_; rotate_left
                        · intro w'
                          go_simp; with_reducible rfl
                        rotate_left
                        · simp only [Act.put,YD,YE,YF,i64_w,i32_w]
                          rfl
                        refine pure_ (i := 18) (N := some 34) (v := ?_) (a' := ?_) #[O,O,O,O,O,O,O,O,O,O,O,O,O,O,O,O,O,O,O,G,G,G,G,G,G,G,G,G,G,G,G] rfl rfl (Zp HT_.out (by kernel_rfl)) (fun _ _ _ h => h) (Or.inl ⟨by rfl,?_⟩) ?_ ?_; rotate_left
                        · intro w'
                          go_simp; with_reducible rfl
                        rotate_left
                        · simp only [Act.put,YD,YE,YF,i64_w,i32_w]
                          rfl
                        refine pure_ (i := 19) (N := some 35) (v := ?_) (a' := ?_) #[O,O,O,O,O,O,O,O,O,O,O,O,O,O,O,O,O,O,O,O,G,G,G,G,G,G,G,G,G,G,G] rfl rfl (Zp HT_.out (by kernel_rfl)) (fun _ _ _ h => h) (Or.inl ⟨by rfl,?_⟩) ?_ ?_; rotate_left
                        · intro w'
                          go_simp; with_reducible rfl
                        rotate_left
                        · simp only [Act.put,YD,YE,YF,i64_w,i32_w]
                          rfl
                        refine pure_ (i := 20) (N := some 36) (v := ?_) (a' := ?_) #[O,O,O,O,O,O,O,O,O,O,O,O,O,O,O,O,O,O,O,O,O,G,G,G,G,G,G,G,G,G,G] rfl rfl (Zp HT_.out (by kernel_rfl)) (fun _ _ _ h => h) (Or.inl ⟨by rfl,?_⟩) ?_ ?_; rotate_left
                        · intro w'
                          go_simp; with_reducible rfl
                        rotate_left
                        · simp only [Act.put,YD,YE,YF,i64_w,i32_w]
                          rfl
                        refine pure_ (i := 21) (N := some 37) (v := ?_) (a' := ?_) #[O,O,O,O,O,O,O,O,O,O,O,O,O,O,O,O,O,O,O,O,O,O,G,G,G,G,G,G,G,G,G] rfl rfl (Zp HT_.out (by kernel_rfl)) (fun _ _ _ h => h) (Or.inl ⟨by rfl,?_⟩) ?_ ?_; rotate_left
                        · intro w'
                          go_simp; with_reducible rfl
                        rotate_left
                        · simp only [Act.put,YD,YE,YF,i64_w,i32_w]
                          rfl
                        refine pure_ (i := 22) (N := some 38) (v := ?_) (a' := ?_) #[O,O,O,O,O,O,O,O,O,O,O,O,O,O,O,O,O,O,O,O,O,O,O,G,G,G,G,G,G,G,G] rfl rfl (Zp HT_.out (by kernel_rfl)) (fun _ _ _ h => h) (Or.inl ⟨by rfl,?_⟩) ?_ ?_; rotate_left
                        · intro w'
                          go_simp; with_reducible rfl
                        rotate_left
                        · simp only [Act.put,YD,YE,YF,i64_w,i32_w]
                          rfl
                        refine pure_ (i := 23) (N := some 39) (v := ?_) (a' := ?_) #[O,O,O,O,O,O,O,O,O,O,O,O,O,O,O,O,O,O,O,O,O,O,O,O,G,G,G,G,G,G,G] rfl rfl (Zp HT_.out (by kernel_rfl)) (fun _ _ _ h => h) (Or.inl ⟨by rfl,?_⟩) ?_ ?_; rotate_left
                        · intro w'
                          go_simp; with_reducible rfl
                        rotate_left
                        · simp only [Act.put,YD,YE,YF,i64_w,i32_w]
                          rfl
                        refine pure_ (i := 24) (N := some 40) (v := ?_) (a' := ?_) #[O,O,O,O,O,O,O,O,O,O,O,O,O,O,O,O,O,O,O,O,O,O,O,O,O,G,G,G,G,G,G] rfl rfl (Zp HT_.out (by kernel_rfl)) (fun _ _ _ h => h) (Or.inl ⟨by rfl,?_⟩) ?_ ?_; rotate_left
                        · intro w'
                          go_simp; with_reducible rfl
                        rotate_left
                        · simp only [Act.put,YD,YE,YF,i64_w,i32_w]
                          rfl
                        refine pure_ (i := 26) (N := some 42) (v := ?_) (a' := ?_) #[O,O,O,O,O,O,O,O,O,O,O,O,O,O,O,O,O,O,O,O,O,O,O,O,O,G,O,G,G,G,G] rfl rfl (Zp HT_.out (by kernel_rfl)) (fun _ _ _ h => h) (Or.inl ⟨by rfl,?_⟩) ?_ ?_; rotate_left
                        · intro w'
                          go_simp; with_reducible rfl
                        rotate_left
                        · simp only [Act.put,YD,YE,YF,i64_w,i32_w]
                          rfl
                        refine take_ (i := 25) (N := some 41) (v := ?_) (a' := ?_) #[O,O,O,O,O,O,O,O,O,O,O,O,O,O,O,O,O,O,O,O,O,O,O,O,O,O,O,G,G,G,G] rfl rfl (Xe HT_.out HW_.out (by kernel_rfl)) (fun _ _ _ h => h) (Or.inl ⟨by rfl,?_⟩) hHeld ?_ ?_; rotate_left
                        · rintro w' ⟨s0,s1,s2,s3,s4,s5⟩
                          go_simp; with_reducible rfl
                        rotate_left
                        · simp only [Act.put,YD,YE,YF,i64_w,i32_w]
                          rfl
                        refine take_ (i := 27) (N := some 43) (v := ?_) (a' := ?_) #[O,O,O,O,O,O,O,O,O,O,O,O,O,O,O,O,O,O,O,O,O,O,O,O,O,O,O,O,G,G,G] rfl rfl (Xe HT_.out HW_.out (by kernel_rfl)) (fun _ _ _ h => h) (Or.inl ⟨by rfl,?_⟩) hHeld ?_ ?_; rotate_left
                        · rintro w' ⟨s0,s1,s2,s3,s4,s5⟩
                          go_simp; with_reducible rfl
                        rotate_left
                        · simp only [Act.put,YD,YE,YF,i64_w,i32_w]
                          rfl
                        refine pure_ (i := 28) (N := some 44) (v := ?_) (a' := ?_) #[O,O,O,O,O,O,O,O,O,O,O,O,O,O,O,O,O,O,O,O,O,O,O,O,O,O,O,O,O,G,G] rfl rfl (Zp HT_.out (by kernel_rfl)) (fun _ _ _ h => h) (Or.inl ⟨by rfl,?_⟩) ?_ ?_; rotate_left
                        · intro w'
                          go_simp; with_reducible rfl
                        rotate_left
                        · simp only [Act.put,YD,YE,YF,i64_w,i32_w]
                          rfl
                        refine pure_ (i := 29) (N := some 45) (v := ?_) (a' := ?_) #[O,O,O,O,O,O,O,O,O,O,O,O,O,O,O,O,O,O,O,O,O,O,O,O,O,O,O,O,O,O,G] rfl rfl (Zp HT_.out (by kernel_rfl)) (fun _ _ _ h => h) (Or.inl ⟨by rfl,?_⟩) ?_ ?_; rotate_left
                        · intro w'
                          go_simp; with_reducible rfl
                        rotate_left
                        · simp only [Act.put,YD,YE,YF,i64_w,i32_w]
                          rfl
                        refine pure_ (i := 30) (N := some 46) (v := ?_) (a' := ?_) #[O,O,O,O,O,O,O,O,O,O,O,O,O,O,O,O,O,O,O,O,O,O,O,O,O,O,O,O,O,O,O] rfl rfl (Zp HT_.out (by kernel_rfl)) (fun _ _ _ h => h) (Or.inl ⟨by rfl,?_⟩) ?_ ?_; rotate_left
                        · intro w'
                          go_simp; with_reducible rfl
                        rotate_left
                        · simp only [Act.put,YD,YE,YF,i64_w,i32_w]
                          rfl
                        refine done_ (X7 HT_.out (by kernel_rfl)) ?_
                        try go_wp2
                        go_meet
                        case rel => exact ⟨_,(decide (((Zg l0 (ji17)).f0) ≥ ((Zg l0 x11_1).f0))),(by first | rfl | (simp; done) | (simp only [← hji17] <;> (first | rfl | simp)) | (simp [*]; done)),H',⟨by have := HK1.out; first | omega | exact Nat.le_refl _⟩,⟨by (with_reducible repeat (first | refine Zy ?_ _ | refine Z0 ?_ | refine Zx ?_ _)); exact BK358.out⟩,⟨by repeat (first | (with_reducible first | exact HB.out | apply Zd | apply Za | apply Zb | refine ZK ?_ GE358.out) | exact HB.out)⟩⟩
                      · rw [if_neg c19] at H
                        exact absurd H (by simp)
                    · rw [if_neg c18] at H
                      exact absurd H (by simp)
                  · rw [if_neg c16] at H
                    have c16b0 : decide (0 < x11_1) = false := decide_eq_false c16; clear c16
                    (first | rw [c16b0] | (simp only [i64_w,i32_w]; rw [c16b0]) | skip)
                    have H' := Zc.mk H; clear H
                    try go_wp2
                    have n0_ : Zc ((((w8.setCell ⟨gb358,0,none⟩ (.int .i64 ((Zg l0 x11_1).f0))).setCell ⟨gb358,1,none⟩ (.int .i64 ((Zg l0 x11_1).f1))).setCell ⟨gb358,2,none⟩ (.int .i64 ((Zg l0 x11_1).f2))).heap[gb358]? = some (.cells #[.int .i64 ((Zg l0 x11_1).f0),.int .i64 ((Zg l0 x11_1).f1),.int .i64 ((Zg l0 x11_1).f2)] 56 (0,0))) := ⟨by (with_reducible repeat (first | refine Zy ?_ _ | refine Z0 ?_ | refine Zx ?_ _)); refine ZJ (cs := #[.int .i64 ((Zg l0 x11_1).f0),.int .i64 ((Zg l0 x11_1).f1),.int .i64 0]) ?_ 2 _ rfl; (with_reducible repeat (first | refine Zy ?_ _ | refine Z0 ?_ | refine Zx ?_ _)); refine ZJ (cs := #[.int .i64 ((Zg l0 x11_1).f0),.int .i64 0,.int .i64 0]) ?_ 1 _ rfl; (with_reducible repeat (first | refine Zy ?_ _ | refine Z0 ?_ | refine Zx ?_ _)); refine ZJ (cs := #[.int .i64 0,.int .i64 0,.int .i64 0]) ?_ 0 _ rfl; (with_reducible repeat (first | refine Zy ?_ _ | refine Z0 ?_ | refine Zx ?_ _)); exact BK358.out⟩
                    have n1_ : Zc (Below w.heap.size w (((w8.setCell ⟨gb358,0,none⟩ (.int .i64 ((Zg l0 x11_1).f0))).setCell ⟨gb358,1,none⟩ (.int .i64 ((Zg l0 x11_1).f1))).setCell ⟨gb358,2,none⟩ (.int .i64 ((Zg l0 x11_1).f2)))) := ⟨by repeat (first | (with_reducible first | exact HB.out | apply Zd | apply Za | apply Zb | refine ZK ?_ GE358.out) | exact HB.out)⟩
                    (try clear BK358)
                    (try clear HB)
                    generalize (((w8.setCell ⟨gb358,0,none⟩ (.int .i64 ((Zg l0 x11_1).f0))).setCell ⟨gb358,1,none⟩ (.int .i64 ((Zg l0 x11_1).f1))).setCell ⟨gb358,2,none⟩ (.int .i64 ((Zg l0 x11_1).f2))) = w22 at n0_ n1_ ⊢; have BK358 := n0_; have HB := n1_; clear n0_ n1_; have n0_ := Zc.mk (Z0 BK358.out); have n1_ := Zc.mk (Zb HB.out); clear BK358; clear HB; have BK358 := n0_; have HB := n1_; clear n0_ n1_; refine XC (n := 31) (S := fun w' => w'.cell? ⟨gb358,0,none⟩ = some (.int .i64 ((Zg l0 x11_1).f0)) ∧ w'.cell? ⟨gb358,1,none⟩ = some (.int .i64 ((Zg l0 x11_1).f1)) ∧ w'.cell? ⟨gb358,2,none⟩ = some (.int .i64 ((Zg l0 x11_1).f2))) (ds := []) #[G,G,G,G,G,G,G,G,G,G,G,G,G,G,G,G,G,G,G,G,G,G,G,G,G,G,G,G,G,G,G] (by kernel_rfl) rfl rfl ⟨(Zn BK358.out 0).trans rfl,(Zn BK358.out 1).trans rfl,(Zn BK358.out 2).trans rfl⟩ (fun hHeld => ?_); refine X1 Zm.tab6 Zm.bits6 (fun HT_ HW_ => ?_); generalize w22.drew = w23 at BK358 HB hHeld ⊢; refine pure_ (i := 0) (N := some 16) (v := ?_) (a' := ?_) #[O,G,G,G,G,G,G,G,G,G,G,G,G,G,G,G,G,G,G,G,G,G,G,G,G,G,G,G,G,G,G] rfl rfl (Zp HT_.out (by kernel_rfl)) (fun _ _ _ h => h) (Or.inl ⟨by rfl,?_⟩) ?_ ?_; rotate_left
                    · intro w'
                      go_simp; with_reducible rfl
                    rotate_left
                    · simp only [Act.put,YD,YE,YF,i64_w,i32_w]
                      rfl
                    refine take_ (i := 1) (N := some 17) (v := ?_) (a' := ?_) #[O,O,G,G,G,G,G,G,G,G,G,G,G,G,G,G,G,G,G,G,G,G,G,G,G,G,G,G,G,G,G] rfl rfl (Xe HT_.out HW_.out (by kernel_rfl)) (fun _ _ _ h => h) (Or.inl ⟨by rfl,?_⟩) hHeld ?_ ?_; rotate_left
                    · rintro w' ⟨s0,s1,s2⟩
                      go_simp; with_reducible rfl
                    rotate_left
                    · simp only [Act.put,YD,YE,YF,i64_w,i32_w]
                      rfl
                    refine one_ (i := 2) (N := some 18) #[O,O,O,G,G,G,G,G,G,G,G,G,G,G,G,G,G,G,G,G,G,G,G,G,G,G,G,G,G,G,G] rfl rfl (X4 HT_.out (by kernel_rfl)) (by decide) (fun K hK => ?_); refine goes_ Try.func43 (by kernel_rfl) rfl #[.int .i64 ((Zg l0 x11_1).f0),.int .i64 0,.int .i64 1000000000] (by rfl) rfl rfl (by (try simp only [List.map_toArray,List.map_cons,List.map_nil]); first | done | rfl | (simp only [List.length_drop,List.length_take]; rfl)) ?_
                    with_reducible refine (Z6.calls ((Zg l0 x11_1).f0) 0 1000000000 true _ A10.out).mono ?_
                    rintro e w' ⟨rfl,⟨nd,rfl⟩⟩; refine ⟨_,rfl,?_⟩; refine hK.out _ _ ⟨(Zn BK358.out 0).trans rfl,(Zn BK358.out 1).trans rfl,(Zn BK358.out 2).trans rfl⟩ (fun hHeld => ?_); clear hK K; refine norm_ (a' := ?_) ?_ ?_; rotate_left
                    · show Act.put _ (some 18) _ = _
                      simp only [Act.put,YD,YE,YF,i64_w,i32_w]; rfl
                    refine pure_ (i := 3) (N := some 19) (v := ?_) (a' := ?_) #[O,O,O,O,G,G,G,G,G,G,G,G,G,G,G,G,G,G,G,G,G,G,G,G,G,G,G,G,G,G,G] rfl rfl (Zp HT_.out (by kernel_rfl)) (fun _ _ _ h => h) (Or.inl ⟨by rfl,?_⟩) ?_ ?_; rotate_left
                    · intro w'
                      go_simp; with_reducible rfl
                    rotate_left
                    · simp only [Act.put,YD,YE,YF,i64_w,i32_w]
                      rfl
                    refine pure_ (i := 4) (N := some 20) (v := ?_) (a' := ?_) #[O,O,O,O,O,G,G,G,G,G,G,G,G,G,G,G,G,G,G,G,G,G,G,G,G,G,G,G,G,G,G] rfl rfl (Zp HT_.out (by kernel_rfl)) (fun _ _ _ h => h) (Or.inl ⟨by rfl,?_⟩) ?_ ?_; rotate_left
                    · intro w'
                      go_simp; with_reducible rfl
                    rotate_left
                    · simp only [Act.put,YD,YE,YF,i64_w,i32_w]
                      rfl
                    refine pure_ (i := 5) (N := some 21) (v := ?_) (a' := ?_) #[O,O,O,O,O,O,G,G,G,G,G,G,G,G,G,G,G,G,G,G,G,G,G,G,G,G,G,G,G,G,G] rfl rfl (Zp HT_.out (by kernel_rfl)) (fun _ _ _ h => h) (Or.inl ⟨by rfl,?_⟩) ?_ ?_; rotate_left
                    · intro w'
                      go_simp; with_reducible rfl
                    rotate_left
                    · simp only [Act.put,YD,YE,YF,i64_w,i32_w]
                      rfl
                    refine take_ (i := 6) (N := some 22) (v := ?_) (a' := ?_) #[O,O,O,O,O,O,O,G,G,G,G,G,G,G,G,G,G,G,G,G,G,G,G,G,G,G,G,G,G,G,G] rfl rfl (Xe HT_.out HW_.out (by kernel_rfl)) (fun _ _ _ h => h) (Or.inl ⟨by rfl,?_⟩) hHeld ?_ ?_; rotate_left
                    · rintro w' ⟨s0,s1,s2⟩
                      go_simp; with_reducible rfl
                    rotate_left
                    · simp only [Act.put,YD,YE,YF,i64_w,i32_w]
                      rfl
                    refine one_ (i := 7) (N := some 23) #[O,O,O,O,O,O,O,O,G,G,G,G,G,G,G,G,G,G,G,G,G,G,G,G,G,G,G,G,G,G,G] rfl rfl (X4 HT_.out (by kernel_rfl)) (by decide) (fun K hK => ?_); refine goes_ Try.func43 (by kernel_rfl) rfl #[.int .i64 ((Zg l0 x11_1).f1),.int .i64 (-8388607),.int .i64 8388607] (by rfl) rfl rfl (by (try simp only [List.map_toArray,List.map_cons,List.map_nil]); first | done | rfl | (simp only [List.length_drop,List.length_take]; rfl)) ?_
                    with_reducible refine (Z6.calls ((Zg l0 x11_1).f1) (-8388607) 8388607 true _ A12.out).mono ?_
                    rintro e w' ⟨rfl,⟨nd,rfl⟩⟩; refine ⟨_,rfl,?_⟩; refine hK.out _ _ ⟨(Zn BK358.out 0).trans rfl,(Zn BK358.out 1).trans rfl,(Zn BK358.out 2).trans rfl⟩ (fun hHeld => ?_); clear hK K; refine norm_ (a' := ?_) ?_ ?_; rotate_left
                    · show Act.put _ (some 23) _ = _
                      simp only [Act.put,YD,YE,YF,i64_w,i32_w]; rfl
                    refine pure_ (i := 8) (N := some 24) (v := ?_) (a' := ?_) #[O,O,O,O,O,O,O,O,O,G,G,G,G,G,G,G,G,G,G,G,G,G,G,G,G,G,G,G,G,G,G] rfl rfl (Zp HT_.out (by kernel_rfl)) (fun _ _ _ h => h) (Or.inl ⟨by rfl,?_⟩) ?_ ?_; rotate_left
                    · intro w'
                      go_simp; with_reducible rfl
                    rotate_left
                    · simp only [Act.put,YD,YE,YF,i64_w,i32_w]
                      rfl
                    refine pure_ (i := 9) (N := some 25) (v := ?_) (a' := ?_) #[O,O,O,O,O,O,O,O,O,O,G,G,G,G,G,G,G,G,G,G,G,G,G,G,G,G,G,G,G,G,G] rfl rfl (Zp HT_.out (by kernel_rfl)) (fun _ _ _ h => h) (Or.inl ⟨by rfl,?_⟩) ?_ ?_; rotate_left
                    · intro w'
                      go_simp; with_reducible rfl
                    rotate_left
                    · simp only [Act.put,YD,YE,YF,i64_w,i32_w]
                      rfl
                    refine pure_ (i := 10) (N := some 26) (v := ?_) (a' := ?_) #[O,O,O,O,O,O,O,O,O,O,O,G,G,G,G,G,G,G,G,G,G,G,G,G,G,G,G,G,G,G,G] rfl rfl (Zp HT_.out (by kernel_rfl)) (fun _ _ _ h => h) (Or.inl ⟨by rfl,?_⟩) ?_ ?_; rotate_left
                    · intro w'
                      go_simp; with_reducible rfl
                    rotate_left
                    · simp only [Act.put,YD,YE,YF,i64_w,i32_w]
                      rfl
                    refine pure_ (i := 11) (N := some 27) (v := ?_) (a' := ?_) #[O,O,O,O,O,O,O,O,O,O,O,O,G,G,G,G,G,G,G,G,G,G,G,G,G,G,G,G,G,G,G] rfl rfl (Zp HT_.out (by kernel_rfl)) (fun _ _ _ h => h) (Or.inl ⟨by rfl,?_⟩) ?_ ?_; rotate_left
                    · intro w'
                      go_simp; with_reducible rfl
                    rotate_left
                    · simp only [Act.put,YD,YE,YF,i64_w,i32_w]
                      rfl
                    refine take_ (i := 12) (N := some 28) (v := ?_) (a' := ?_) #[O,O,O,O,O,O,O,O,O,O,O,O,O,G,G,G,G,G,G,G,G,G,G,G,G,G,G,G,G,G,G] rfl rfl (Xe HT_.out HW_.out (by kernel_rfl)) (fun _ _ _ h => h) (Or.inl ⟨by rfl,?_⟩) hHeld ?_ ?_; rotate_left
                    · rintro w' ⟨s0,s1,s2⟩
                      go_simp; with_reducible rfl
                    rotate_left
                    · simp only [Act.put,YD,YE,YF,i64_w,i32_w]
                      rfl
                    refine one_ (i := 13) (N := some 29) #[O,O,O,O,O,O,O,O,O,O,O,O,O,O,G,G,G,G,G,G,G,G,G,G,G,G,G,G,G,G,G] rfl rfl (X4 HT_.out (by kernel_rfl)) (by decide) (fun K hK => ?_); refine goes_ Try.func43 (by kernel_rfl) rfl #[.int .i64 ((Zg l0 x11_1).f2),.int .i64 0,.int .i64 2] (by rfl) rfl rfl (by (try simp only [List.map_toArray,List.map_cons,List.map_nil]); first | done | rfl | (simp only [List.length_drop,List.length_take]; rfl)) ?_
                    with_reducible refine (Z6.calls ((Zg l0 x11_1).f2) 0 2 true _ A14.out).mono ?_
                    rintro e w' ⟨rfl,⟨nd,rfl⟩⟩; refine ⟨_,rfl,?_⟩; refine hK.out _ _ ⟨(Zn BK358.out 0).trans rfl,(Zn BK358.out 1).trans rfl,(Zn BK358.out 2).trans rfl⟩ (fun hHeld => ?_); clear hK K; refine norm_ (a' := ?_) ?_ ?_; rotate_left
                    · show Act.put _ (some 29) _ = _
                      simp only [Act.put,YD,YE,YF,i64_w,i32_w]; rfl
                    refine pure_ (i := 14) (N := some 30) (v := ?_) (a' := ?_) #[O,O,O,O,O,O,O,O,O,O,O,O,O,O,O,G,G,G,G,G,G,G,G,G,G,G,G,G,G,G,G] rfl rfl (Zp HT_.out (by kernel_rfl)) (fun _ _ _ h => h) (Or.inl ⟨by rfl,?_⟩) ?_ ?_; rotate_left
                    · intro w'
                      go_simp; with_reducible rfl
                    rotate_left
                    · simp only [Act.put,YD,YE,YF,i64_w,i32_w]
                      rfl
                    refine pure_ (i := 15) (N := some 31) (v := ?_) (a' := ?_) #[O,O,O,O,O,O,O,O,O,O,O,O,O,O,O,O,G,G,G,G,G,G,G,G,G,G,G,G,G,G,G] rfl rfl (Zp HT_.out (by kernel_rfl)) (fun _ _ _ h => h) (Or.inl ⟨by rfl,?_⟩) ?_ ?_; rotate_left
                    · intro w'
                      go_simp; with_reducible rfl
                    rotate_left
                    · simp only [Act.put,YD,YE,YF,i64_w,i32_w]
                      rfl
                    refine pure_ (i := 16) (N := some 32) (v := ?_) (a' := ?_) #[O,O,O,O,O,O,O,O,O,O,O,O,O,O,O,O,O,G,G,G,G,G,G,G,G,G,G,G,G,G,G] rfl rfl (Zp HT_.out (by kernel_rfl)) (fun _ _ _ h => h) (Or.inl ⟨by rfl,?_⟩) ?_ ?_; rotate_left
                    · intro w'
                      go_simp; with_reducible rfl
                    rotate_left
                    · simp only [Act.put,YD,YE,YF,i64_w,i32_w]
                      rfl
                    refine pure_ (i := 17) (N := some 33) (v := ?_) (a' := ?_) #[O,O,O,O,O,O,O,O,O,O,O,O,O,O,O,O,O,O,G,G,G,G,G,G,G,G,G,G,G,G,G] rfl rfl (Zp HT_.out (by kernel_rfl)) (fun _ _ _ h => h) (Or.inl ⟨by rfl,?_⟩) ?_ ?_; rotate_left
                    · intro w'
                      go_simp; with_reducible rfl
                    rotate_left
                    · simp only [Act.put,YD,YE,YF,i64_w,i32_w]
                      rfl
                    refine pure_ (i := 18) (N := some 34) (v := ?_) (a' := ?_) #[O,O,O,O,O,O,O,O,O,O,O,O,O,O,O,O,O,O,O,G,G,G,G,G,G,G,G,G,G,G,G] rfl rfl (Zp HT_.out (by kernel_rfl)) (fun _ _ _ h => h) (Or.inl ⟨by rfl,?_⟩) ?_ ?_; rotate_left
                    · intro w'
                      go_simp; with_reducible rfl
                    rotate_left
                    · simp only [Act.put,YD,YE,YF,i64_w,i32_w]
                      rfl
                    refine pure_ (i := 19) (N := some 35) (v := ?_) (a' := ?_) #[O,O,O,O,O,O,O,O,O,O,O,O,O,O,O,O,O,O,O,O,G,G,G,G,G,G,G,G,G,G,G] rfl rfl (Zp HT_.out (by kernel_rfl)) (fun _ _ _ h => h) (Or.inl ⟨by rfl,?_⟩) ?_ ?_; rotate_left
                    · intro w'
                      go_simp; with_reducible rfl
                    rotate_left
                    · simp only [Act.put,YD,YE,YF,i64_w,i32_w]
                      rfl
                    refine pure_ (i := 20) (N := some 36) (v := undef) (a' := ?_) #[O,O,O,O,O,O,O,O,O,O,O,O,O,O,O,O,O,O,O,O,O,G,G,G,G,G,G,G,G,G,G] rfl rfl (Zp HT_.out (by kernel_rfl)) (fun _ _ _ h => h) (Or.inr ⟨by rfl,rfl⟩) ?_ ?_; rotate_left
                    · simp only [Act.put,YD,YE,YF,i64_w,i32_w]
                      rfl
                    refine pure_ (i := 21) (N := some 37) (v := undef) (a' := ?_) #[O,O,O,O,O,O,O,O,O,O,O,O,O,O,O,O,O,O,O,O,O,O,G,G,G,G,G,G,G,G,G] rfl rfl (Zp HT_.out (by kernel_rfl)) (fun _ _ _ h => h) (Or.inr ⟨by rfl,rfl⟩) ?_ ?_; rotate_left
                    · simp only [Act.put,YD,YE,YF,i64_w,i32_w]
                      rfl
                    refine pure_ (i := 22) (N := some 38) (v := undef) (a' := ?_) #[O,O,O,O,O,O,O,O,O,O,O,O,O,O,O,O,O,O,O,O,O,O,O,G,G,G,G,G,G,G,G] rfl rfl (Zp HT_.out (by kernel_rfl)) (fun _ _ _ h => h) (Or.inr ⟨by rfl,rfl⟩) ?_ ?_; rotate_left
                    · simp only [Act.put,YD,YE,YF,i64_w,i32_w]
                      rfl
                    refine pure_ (i := 23) (N := some 39) (v := undef) (a' := ?_) #[O,O,O,O,O,O,O,O,O,O,O,O,O,O,O,O,O,O,O,O,O,O,O,O,G,G,G,G,G,G,G] rfl rfl (Zp HT_.out (by kernel_rfl)) (fun _ _ _ h => h) (Or.inr ⟨by rfl,rfl⟩) ?_ ?_; rotate_left
                    · simp only [Act.put,YD,YE,YF,i64_w,i32_w]
                      rfl
                    refine pure_ (i := 24) (N := some 40) (v := undef) (a' := ?_) #[O,O,O,O,O,O,O,O,O,O,O,O,O,O,O,O,O,O,O,O,O,O,O,O,O,G,G,G,G,G,G] rfl rfl (Zp HT_.out (by kernel_rfl)) (fun _ _ _ h => h) (Or.inr ⟨by rfl,rfl⟩) ?_ ?_; rotate_left
                    · simp only [Act.put,YD,YE,YF,i64_w,i32_w]
                      rfl
                    refine pure_ (i := 25) (N := some 41) (v := undef) (a' := ?_) #[O,O,O,O,O,O,O,O,O,O,O,O,O,O,O,O,O,O,O,O,O,O,O,O,O,O,G,G,G,G,G] rfl rfl (Zp HT_.out (by kernel_rfl)) (fun _ _ _ h => h) (Or.inr ⟨by rfl,rfl⟩) ?_ ?_; rotate_left
                    · simp only [Act.put,YD,YE,YF,i64_w,i32_w]
                      rfl
                    refine pure_ (i := 26) (N := some 42) (v := undef) (a' := ?_) #[O,O,O,O,O,O,O,O,O,O,O,O,O,O,O,O,O,O,O,O,O,O,O,O,O,O,O,G,G,G,G] rfl rfl (Zp HT_.out (by kernel_rfl)) (fun _ _ _ h => h) (Or.inr ⟨by rfl,rfl⟩) ?_ ?_; rotate_left
                    · simp only [Act.put,YD,YE,YF,i64_w,i32_w]
                      rfl
                    refine pure_ (i := 27) (N := some 43) (v := undef) (a' := ?_) #[O,O,O,O,O,O,O,O,O,O,O,O,O,O,O,O,O,O,O,O,O,O,O,O,O,O,O,O,G,G,G] rfl rfl (Zp HT_.out (by kernel_rfl)) (fun _ _ _ h => h) (Or.inr ⟨by rfl,rfl⟩) ?_ ?_; rotate_left
                    · simp only [Act.put,YD,YE,YF,i64_w,i32_w]
                      rfl
                    refine pure_ (i := 28) (N := some 44) (v := undef) (a' := ?_) #[O,O,O,O,O,O,O,O,O,O,O,O,O,O,O,O,O,O,O,O,O,O,O,O,O,O,O,O,O,G,G] rfl rfl (Zp HT_.out (by kernel_rfl)) (fun _ _ _ h => h) (Or.inr ⟨by rfl,rfl⟩) ?_ ?_; rotate_left
                    · simp only [Act.put,YD,YE,YF,i64_w,i32_w]
                      rfl
                    refine pure_ (i := 29) (N := some 45) (v := ?_) (a' := ?_) #[O,O,O,O,O,O,O,O,O,O,O,O,O,O,O,O,O,O,O,O,O,O,O,O,O,O,O,O,O,O,G] rfl rfl (Zp HT_.out (by kernel_rfl)) (fun _ _ _ h => h) (Or.inl ⟨by rfl,?_⟩) ?_ ?_; rotate_left
                    · intro w'
                      go_simp; with_reducible rfl
                    rotate_left
                    · simp only [Act.put,YD,YE,YF,i64_w,i32_w]
                      rfl
                    refine pure_ (i := 30) (N := some 46) (v := ?_) (a' := ?_) #[O,O,O,O,O,O,O,O,O,O,O,O,O,O,O,O,O,O,O,O,O,O,O,O,O,O,O,O,O,O,O] rfl rfl (Zp HT_.out (by kernel_rfl)) (fun _ _ _ h => h) (Or.inl ⟨by rfl,?_⟩) ?_ ?_; rotate_left
                    · intro w'
                      go_simp; with_reducible rfl
                    rotate_left
                    · simp only [Act.put,YD,YE,YF,i64_w,i32_w]
                      rfl
                    refine done_ (X7 HT_.out (by kernel_rfl)) ?_
                    try go_wp2
                    go_meet
                    case rel => exact ⟨_,(false),(by first | rfl | (simp; done) | (simp [*]; done)),H',⟨by have := HK1.out; first | omega | exact Nat.le_refl _⟩,⟨by (with_reducible repeat (first | refine Zy ?_ _ | refine Z0 ?_ | refine Zx ?_ _)); exact BK358.out⟩,⟨by repeat (first | (with_reducible first | exact HB.out | apply Zd | apply Za | apply Zb | refine ZK ?_ GE358.out) | exact HB.out)⟩⟩
                · replace c15 := Bool.eq_false_iff.mpr c15
                  subst c15
                  have H1 : (Zm.j1 k1 l0 x11_1 l0 (l0.length : Int) x11_1 true ((Zg l0 x11_1).f0) ((Zg l0 x11_1).f1) ((Zg l0 x11_1).f2)) = some r := by rw [if_neg (show ¬ (false = true) by decide)] at H; exact H
                  clear H; have H := H1; clear H1; have H' := Zc.mk H; clear H
                  try go_wp2
                  have n0_ : Zc ((((w8.setCell ⟨gb358,0,none⟩ (.int .i64 ((Zg l0 x11_1).f0))).setCell ⟨gb358,1,none⟩ (.int .i64 ((Zg l0 x11_1).f1))).setCell ⟨gb358,2,none⟩ (.int .i64 ((Zg l0 x11_1).f2))).heap[gb358]? = some (.cells #[.int .i64 ((Zg l0 x11_1).f0),.int .i64 ((Zg l0 x11_1).f1),.int .i64 ((Zg l0 x11_1).f2)] 56 (0,0))) := ⟨by (with_reducible repeat (first | refine Zy ?_ _ | refine Z0 ?_ | refine Zx ?_ _)); refine ZJ (cs := #[.int .i64 ((Zg l0 x11_1).f0),.int .i64 ((Zg l0 x11_1).f1),.int .i64 0]) ?_ 2 _ rfl; (with_reducible repeat (first | refine Zy ?_ _ | refine Z0 ?_ | refine Zx ?_ _)); refine ZJ (cs := #[.int .i64 ((Zg l0 x11_1).f0),.int .i64 0,.int .i64 0]) ?_ 1 _ rfl; (with_reducible repeat (first | refine Zy ?_ _ | refine Z0 ?_ | refine Zx ?_ _)); refine ZJ (cs := #[.int .i64 0,.int .i64 0,.int .i64 0]) ?_ 0 _ rfl; (with_reducible repeat (first | refine Zy ?_ _ | refine Z0 ?_ | refine Zx ?_ _)); exact BK358.out⟩
                  have n1_ : Zc (Below w.heap.size w (((w8.setCell ⟨gb358,0,none⟩ (.int .i64 ((Zg l0 x11_1).f0))).setCell ⟨gb358,1,none⟩ (.int .i64 ((Zg l0 x11_1).f1))).setCell ⟨gb358,2,none⟩ (.int .i64 ((Zg l0 x11_1).f2)))) := ⟨by repeat (first | (with_reducible first | exact HB.out | apply Zd | apply Za | apply Zb | refine ZK ?_ GE358.out) | exact HB.out)⟩
                  (try clear BK358)
                  (try clear HB)
                  generalize (((w8.setCell ⟨gb358,0,none⟩ (.int .i64 ((Zg l0 x11_1).f0))).setCell ⟨gb358,1,none⟩ (.int .i64 ((Zg l0 x11_1).f1))).setCell ⟨gb358,2,none⟩ (.int .i64 ((Zg l0 x11_1).f2))) = w24 at n0_ n1_ ⊢; have BK358 := n0_; have HB := n1_; clear n0_ n1_; have n0_ := Zc.mk (Z0 BK358.out); have n1_ := Zc.mk (Zb HB.out); clear BK358; clear HB; have BK358 := n0_; have HB := n1_; clear n0_ n1_; refine XC (n := 31) (S := fun w' => w'.cell? ⟨gb358,0,none⟩ = some (.int .i64 ((Zg l0 x11_1).f0)) ∧ w'.cell? ⟨gb358,1,none⟩ = some (.int .i64 ((Zg l0 x11_1).f1)) ∧ w'.cell? ⟨gb358,2,none⟩ = some (.int .i64 ((Zg l0 x11_1).f2))) (ds := []) #[G,G,G,G,G,G,G,G,G,G,G,G,G,G,G,G,G,G,G,G,G,G,G,G,G,G,G,G,G,G,G] (by kernel_rfl) rfl rfl ⟨(Zn BK358.out 0).trans rfl,(Zn BK358.out 1).trans rfl,(Zn BK358.out 2).trans rfl⟩ (fun hHeld => ?_); refine X1 Zm.tab6 Zm.bits6 (fun HT_ HW_ => ?_); generalize w24.drew = w25 at BK358 HB hHeld ⊢; refine pure_ (i := 0) (N := some 16) (v := ?_) (a' := ?_) #[O,G,G,G,G,G,G,G,G,G,G,G,G,G,G,G,G,G,G,G,G,G,G,G,G,G,G,G,G,G,G] rfl rfl (Zp HT_.out (by kernel_rfl)) (fun _ _ _ h => h) (Or.inl ⟨by rfl,?_⟩) ?_ ?_; rotate_left
                  · intro w'
                    go_simp; with_reducible rfl
                  rotate_left
                  · simp only [Act.put,YD,YE,YF,i64_w,i32_w]
                    rfl
                  refine take_ (i := 1) (N := some 17) (v := ?_) (a' := ?_) #[O,O,G,G,G,G,G,G,G,G,G,G,G,G,G,G,G,G,G,G,G,G,G,G,G,G,G,G,G,G,G] rfl rfl (Xe HT_.out HW_.out (by kernel_rfl)) (fun _ _ _ h => h) (Or.inl ⟨by rfl,?_⟩) hHeld ?_ ?_; rotate_left
                  · rintro w' ⟨s0,s1,s2⟩
                    go_simp; with_reducible rfl
                  rotate_left
                  · simp only [Act.put,YD,YE,YF,i64_w,i32_w]
                    rfl
                  refine one_ (i := 2) (N := some 18) #[O,O,O,G,G,G,G,G,G,G,G,G,G,G,G,G,G,G,G,G,G,G,G,G,G,G,G,G,G,G,G] rfl rfl (X4 HT_.out (by kernel_rfl)) (by decide) (fun K hK => ?_); refine goes_ Try.func43 (by kernel_rfl) rfl #[.int .i64 ((Zg l0 x11_1).f0),.int .i64 0,.int .i64 1000000000] (by rfl) rfl rfl (by (try simp only [List.map_toArray,List.map_cons,List.map_nil]); first | done | rfl | (simp only [List.length_drop,List.length_take]; rfl)) ?_
                  with_reducible refine (Z6.calls ((Zg l0 x11_1).f0) 0 1000000000 true _ A10.out).mono ?_
                  rintro e w' ⟨rfl,⟨nd,rfl⟩⟩; refine ⟨_,rfl,?_⟩; refine hK.out _ _ ⟨(Zn BK358.out 0).trans rfl,(Zn BK358.out 1).trans rfl,(Zn BK358.out 2).trans rfl⟩ (fun hHeld => ?_); clear hK K; refine norm_ (a' := ?_) ?_ ?_; rotate_left
                  · show Act.put _ (some 18) _ = _
                    simp only [Act.put,YD,YE,YF,i64_w,i32_w]; rfl
                  refine pure_ (i := 3) (N := some 19) (v := ?_) (a' := ?_) #[O,O,O,O,G,G,G,G,G,G,G,G,G,G,G,G,G,G,G,G,G,G,G,G,G,G,G,G,G,G,G] rfl rfl (Zp HT_.out (by kernel_rfl)) (fun _ _ _ h => h) (Or.inl ⟨by rfl,?_⟩) ?_ ?_; rotate_left
                  · intro w'
                    go_simp; with_reducible rfl
                  rotate_left
                  · simp only [Act.put,YD,YE,YF,i64_w,i32_w]
                    rfl
                  refine pure_ (i := 4) (N := some 20) (v := ?_) (a' := ?_) #[O,O,O,O,O,G,G,G,G,G,G,G,G,G,G,G,G,G,G,G,G,G,G,G,G,G,G,G,G,G,G] rfl rfl (Zp HT_.out (by kernel_rfl)) (fun _ _ _ h => h) (Or.inl ⟨by rfl,?_⟩) ?_ ?_; rotate_left
                  · intro w'
                    go_simp; with_reducible rfl
                  rotate_left
                  · simp only [Act.put,YD,YE,YF,i64_w,i32_w]
                    rfl
                  refine pure_ (i := 5) (N := some 21) (v := ?_) (a' := ?_) #[O,O,O,O,O,O,G,G,G,G,G,G,G,G,G,G,G,G,G,G,G,G,G,G,G,G,G,G,G,G,G] rfl rfl (Zp HT_.out (by kernel_rfl)) (fun _ _ _ h => h) (Or.inl ⟨by rfl,?_⟩) ?_ ?_; rotate_left
                  · intro w'
                    go_simp; with_reducible rfl
                  rotate_left
                  · simp only [Act.put,YD,YE,YF,i64_w,i32_w]
                    rfl
                  refine take_ (i := 6) (N := some 22) (v := ?_) (a' := ?_) #[O,O,O,O,O,O,O,G,G,G,G,G,G,G,G,G,G,G,G,G,G,G,G,G,G,G,G,G,G,G,G] rfl rfl (Xe HT_.out HW_.out (by kernel_rfl)) (fun _ _ _ h => h) (Or.inl ⟨by rfl,?_⟩) hHeld ?_ ?_; rotate_left
                  · rintro w' ⟨s0,s1,s2⟩
                    go_simp; with_reducible rfl
                  rotate_left
                  · simp only [Act.put,YD,YE,YF,i64_w,i32_w]
                    rfl
                  refine one_ (i := 7) (N := some 23) #[O,O,O,O,O,O,O,O,G,G,G,G,G,G,G,G,G,G,G,G,G,G,G,G,G,G,G,G,G,G,G] rfl rfl (X4 HT_.out (by kernel_rfl)) (by decide) (fun K hK => ?_); refine goes_ Try.func43 (by kernel_rfl) rfl #[.int .i64 ((Zg l0 x11_1).f1),.int .i64 (-8388607),.int .i64 8388607] (by rfl) rfl rfl (by (try simp only [List.map_toArray,List.map_cons,List.map_nil]); first | done | rfl | (simp only [List.length_drop,List.length_take]; rfl)) ?_
                  with_reducible refine (Z6.calls ((Zg l0 x11_1).f1) (-8388607) 8388607 true _ A12.out).mono ?_
                  rintro e w' ⟨rfl,⟨nd,rfl⟩⟩; refine ⟨_,rfl,?_⟩; refine hK.out _ _ ⟨(Zn BK358.out 0).trans rfl,(Zn BK358.out 1).trans rfl,(Zn BK358.out 2).trans rfl⟩ (fun hHeld => ?_); clear hK K; refine norm_ (a' := ?_) ?_ ?_; rotate_left
                  · show Act.put _ (some 23) _ = _
                    simp only [Act.put,YD,YE,YF,i64_w,i32_w]; rfl
                  refine pure_ (i := 8) (N := some 24) (v := ?_) (a' := ?_) #[O,O,O,O,O,O,O,O,O,G,G,G,G,G,G,G,G,G,G,G,G,G,G,G,G,G,G,G,G,G,G] rfl rfl (Zp HT_.out (by kernel_rfl)) (fun _ _ _ h => h) (Or.inl ⟨by rfl,?_⟩) ?_ ?_; rotate_left
                  · intro w'
                    go_simp; with_reducible rfl
                  rotate_left
                  · simp only [Act.put,YD,YE,YF,i64_w,i32_w]
                    rfl
                  refine pure_ (i := 9) (N := some 25) (v := ?_) (a' := ?_) #[O,O,O,O,O,O,O,O,O,O,G,G,G,G,G,G,G,G,G,G,G,G,G,G,G,G,G,G,G,G,G] rfl rfl (Zp HT_.out (by kernel_rfl)) (fun _ _ _ h => h) (Or.inl ⟨by rfl,?_⟩) ?_ ?_; rotate_left
                  · intro w'
                    go_simp; with_reducible rfl
                  rotate_left
                  · simp only [Act.put,YD,YE,YF,i64_w,i32_w]
                    rfl
                  refine pure_ (i := 10) (N := some 26) (v := ?_) (a' := ?_) #[O,O,O,O,O,O,O,O,O,O,O,G,G,G,G,G,G,G,G,G,G,G,G,G,G,G,G,G,G,G,G] rfl rfl (Zp HT_.out (by kernel_rfl)) (fun _ _ _ h => h) (Or.inl ⟨by rfl,?_⟩) ?_ ?_; rotate_left
                  · intro w'
                    go_simp; with_reducible rfl
                  rotate_left
                  · simp only [Act.put,YD,YE,YF,i64_w,i32_w]
                    rfl
                  refine pure_ (i := 11) (N := some 27) (v := ?_) (a' := ?_) #[O,O,O,O,O,O,O,O,O,O,O,O,G,G,G,G,G,G,G,G,G,G,G,G,G,G,G,G,G,G,G] rfl rfl (Zp HT_.out (by kernel_rfl)) (fun _ _ _ h => h) (Or.inl ⟨by rfl,?_⟩) ?_ ?_; rotate_left
                  · intro w'
                    go_simp; with_reducible rfl
                  rotate_left
                  · simp only [Act.put,YD,YE,YF,i64_w,i32_w]
                    rfl
                  refine take_ (i := 12) (N := some 28) (v := ?_) (a' := ?_) #[O,O,O,O,O,O,O,O,O,O,O,O,O,G,G,G,G,G,G,G,G,G,G,G,G,G,G,G,G,G,G] rfl rfl (Xe HT_.out HW_.out (by kernel_rfl)) (fun _ _ _ h => h) (Or.inl ⟨by rfl,?_⟩) hHeld ?_ ?_; rotate_left
                  · rintro w' ⟨s0,s1,s2⟩
                    go_simp; with_reducible rfl
                  rotate_left
                  · simp only [Act.put,YD,YE,YF,i64_w,i32_w]
                    rfl
                  refine one_ (i := 13) (N := some 29) #[O,O,O,O,O,O,O,O,O,O,O,O,O,O,G,G,G,G,G,G,G,G,G,G,G,G,G,G,G,G,G] rfl rfl (X4 HT_.out (by kernel_rfl)) (by decide) (fun K hK => ?_); refine goes_ Try.func43 (by kernel_rfl) rfl #[.int .i64 ((Zg l0 x11_1).f2),.int .i64 0,.int .i64 2] (by rfl) rfl rfl (by (try simp only [List.map_toArray,List.map_cons,List.map_nil]); first | done | rfl | (simp only [List.length_drop,List.length_take]; rfl)) ?_
                  with_reducible refine (Z6.calls ((Zg l0 x11_1).f2) 0 2 false _ A14.out).mono ?_
                  rintro e w' ⟨rfl,⟨nd,rfl⟩⟩; refine ⟨_,rfl,?_⟩; refine hK.out _ _ ⟨(Zn BK358.out 0).trans rfl,(Zn BK358.out 1).trans rfl,(Zn BK358.out 2).trans rfl⟩ (fun hHeld => ?_); clear hK K; refine norm_ (a' := ?_) ?_ ?_; rotate_left
                  · show Act.put _ (some 29) _ = _
                    simp only [Act.put,YD,YE,YF,i64_w,i32_w]; rfl
                  refine pure_ (i := 14) (N := some 30) (v := ?_) (a' := ?_) #[O,O,O,O,O,O,O,O,O,O,O,O,O,O,O,G,G,G,G,G,G,G,G,G,G,G,G,G,G,G,G] rfl rfl (Zp HT_.out (by kernel_rfl)) (fun _ _ _ h => h) (Or.inl ⟨by rfl,?_⟩) ?_ ?_; rotate_left
                  · intro w'
                    go_simp; with_reducible rfl
                  rotate_left
                  · simp only [Act.put,YD,YE,YF,i64_w,i32_w]
                    rfl
                  refine pure_ (i := 15) (N := some 31) (v := ?_) (a' := ?_) #[O,O,O,O,O,O,O,O,O,O,O,O,O,O,O,O,G,G,G,G,G,G,G,G,G,G,G,G,G,G,G] rfl rfl (Zp HT_.out (by kernel_rfl)) (fun _ _ _ h => h) (Or.inl ⟨by rfl,?_⟩) ?_ ?_; rotate_left
                  · intro w'
                    go_simp; with_reducible rfl
                  rotate_left
                  · simp only [Act.put,YD,YE,YF,i64_w,i32_w]
                    rfl
                  refine pure_ (i := 16) (N := some 32) (v := ?_) (a' := ?_) #[O,O,O,O,O,O,O,O,O,O,O,O,O,O,O,O,O,G,G,G,G,G,G,G,G,G,G,G,G,G,G] rfl rfl (Zp HT_.out (by kernel_rfl)) (fun _ _ _ h => h) (Or.inl ⟨by rfl,?_⟩) ?_ ?_; rotate_left
                  · intro w'
                    go_simp; with_reducible rfl
                  rotate_left
                  · simp only [Act.put,YD,YE,YF,i64_w,i32_w]
                    rfl
                  refine pure_ (i := 17) (N := some 33) (v := undef) (a' := ?_) #[O,O,O,O,O,O,O,O,O,O,O,O,O,O,O,O,O,O,G,G,G,G,G,G,G,G,G,G,G,G,G] rfl rfl (Zp HT_.out (by kernel_rfl)) (fun _ _ _ h => h) (Or.inr ⟨by rfl,rfl⟩) ?_ ?_; rotate_left
                  · simp only [Act.put,YD,YE,YF,i64_w,i32_w]
                    rfl
                  refine pure_ (i := 18) (N := some 34) (v := undef) (a' := ?_) #[O,O,O,O,O,O,O,O,O,O,O,O,O,O,O,O,O,O,O,G,G,G,G,G,G,G,G,G,G,G,G] rfl rfl (Zp HT_.out (by kernel_rfl)) (fun _ _ _ h => h) (Or.inr ⟨by rfl,rfl⟩) ?_ ?_; rotate_left
                  · simp only [Act.put,YD,YE,YF,i64_w,i32_w]
                    rfl
                  refine pure_ (i := 19) (N := some 35) (v := undef) (a' := ?_) #[O,O,O,O,O,O,O,O,O,O,O,O,O,O,O,O,O,O,O,O,G,G,G,G,G,G,G,G,G,G,G] rfl rfl (Zp HT_.out (by kernel_rfl)) (fun _ _ _ h => h) (Or.inr ⟨by rfl,rfl⟩) ?_ ?_; rotate_left
                  · simp only [Act.put,YD,YE,YF,i64_w,i32_w]
                    rfl
                  refine pure_ (i := 20) (N := some 36) (v := undef) (a' := ?_) #[O,O,O,O,O,O,O,O,O,O,O,O,O,O,O,O,O,O,O,O,O,G,G,G,G,G,G,G,G,G,G] rfl rfl (Zp HT_.out (by kernel_rfl)) (fun _ _ _ h => h) (Or.inr ⟨by rfl,rfl⟩) ?_ ?_; rotate_left
                  · simp only [Act.put,YD,YE,YF,i64_w,i32_w]
                    rfl
                  refine pure_ (i := 21) (N := some 37) (v := undef) (a' := ?_) #[O,O,O,O,O,O,O,O,O,O,O,O,O,O,O,O,O,O,O,O,O,O,G,G,G,G,G,G,G,G,G] rfl rfl (Zp HT_.out (by kernel_rfl)) (fun _ _ _ h => h) (Or.inr ⟨by rfl,rfl⟩) ?_ ?_; rotate_left
                  · simp only [Act.put,YD,YE,YF,i64_w,i32_w]
                    rfl
                  refine pure_ (i := 22) (N := some 38) (v := undef) (a' := ?_) #[O,O,O,O,O,O,O,O,O,O,O,O,O,O,O,O,O,O,O,O,O,O,O,G,G,G,G,G,G,G,G] rfl rfl (Zp HT_.out (by kernel_rfl)) (fun _ _ _ h => h) (Or.inr ⟨by rfl,rfl⟩) ?_ ?_; rotate_left
                  · simp only [Act.put,YD,YE,YF,i64_w,i32_w]
                    rfl
                  refine pure_ (i := 23) (N := some 39) (v := undef) (a' := ?_) #[O,O,O,O,O,O,O,O,O,O,O,O,O,O,O,O,O,O,O,O,O,O,O,O,G,G,G,G,G,G,G] rfl rfl (Zp HT_.out (by kernel_rfl)) (fun _ _ _ h => h) (Or.inr ⟨by rfl,rfl⟩) ?_ ?_; rotate_left
                  · simp only [Act.put,YD,YE,YF,i64_w,i32_w]
                    rfl
                  refine pure_ (i := 24) (N := some 40) (v := undef) (a' := ?_) #[O,O,O,O,O,O,O,O,O,O,O,O,O,O,O,O,O,O,O,O,O,O,O,O,O,G,G,G,G,G,G] rfl rfl (Zp HT_.out (by kernel_rfl)) (fun _ _ _ h => h) (Or.inr ⟨by rfl,rfl⟩) ?_ ?_; rotate_left
                  · simp only [Act.put,YD,YE,YF,i64_w,i32_w]
                    rfl
                  refine pure_ (i := 25) (N := some 41) (v := undef) (a' := ?_) #[O,O,O,O,O,O,O,O,O,O,O,O,O,O,O,O,O,O,O,O,O,O,O,O,O,O,G,G,G,G,G] rfl rfl (Zp HT_.out (by kernel_rfl)) (fun _ _ _ h => h) (Or.inr ⟨by rfl,rfl⟩) ?_ ?_; rotate_left
                  · simp only [Act.put,YD,YE,YF,i64_w,i32_w]
                    rfl
                  refine pure_ (i := 26) (N := some 42) (v := undef) (a' := ?_) #[O,O,O,O,O,O,O,O,O,O,O,O,O,O,O,O,O,O,O,O,O,O,O,O,O,O,O,G,G,G,G] rfl rfl (Zp HT_.out (by kernel_rfl)) (fun _ _ _ h => h) (Or.inr ⟨by rfl,rfl⟩) ?_ ?_; rotate_left
                  · simp only [Act.put,YD,YE,YF,i64_w,i32_w]
                    rfl
                  refine pure_ (i := 27) (N := some 43) (v := undef) (a' := ?_) #[O,O,O,O,O,O,O,O,O,O,O,O,O,O,O,O,O,O,O,O,O,O,O,O,O,O,O,O,G,G,G] rfl rfl (Zp HT_.out (by kernel_rfl)) (fun _ _ _ h => h) (Or.inr ⟨by rfl,rfl⟩) ?_ ?_; rotate_left
                  · simp only [Act.put,YD,YE,YF,i64_w,i32_w]
                    rfl
                  refine pure_ (i := 28) (N := some 44) (v := undef) (a' := ?_) #[O,O,O,O,O,O,O,O,O,O,O,O,O,O,O,O,O,O,O,O,O,O,O,O,O,O,O,O,O,G,G] rfl rfl (Zp HT_.out (by kernel_rfl)) (fun _ _ _ h => h) (Or.inr ⟨by rfl,rfl⟩) ?_ ?_; rotate_left
                  · simp only [Act.put,YD,YE,YF,i64_w,i32_w]
                    rfl
                  refine pure_ (i := 29) (N := some 45) (v := undef) (a' := ?_) #[O,O,O,O,O,O,O,O,O,O,O,O,O,O,O,O,O,O,O,O,O,O,O,O,O,O,O,O,O,O,G] rfl rfl (Zp HT_.out (by kernel_rfl)) (fun _ _ _ h => h) (Or.inr ⟨by rfl,rfl⟩) ?_ ?_; rotate_left
                  · simp only [Act.put,YD,YE,YF,i64_w,i32_w]
                    rfl
                  refine pure_ (i := 30) (N := some 46) (v := ?_) (a' := ?_) #[O,O,O,O,O,O,O,O,O,O,O,O,O,O,O,O,O,O,O,O,O,O,O,O,O,O,O,O,O,O,O] rfl rfl (Zp HT_.out (by kernel_rfl)) (fun _ _ _ h => h) (Or.inl ⟨by rfl,?_⟩) ?_ ?_; rotate_left
                  · intro w'
                    go_simp; with_reducible rfl
                  rotate_left
                  · simp only [Act.put,YD,YE,YF,i64_w,i32_w]
                    rfl
                  refine done_ (X7 HT_.out (by kernel_rfl)) ?_
                  try go_wp2
                  go_meet
                  case rel => exact ⟨_,(true),(by first | rfl | (simp; done) | (simp [*]; done)),H',⟨by have := HK1.out; first | omega | exact Nat.le_refl _⟩,⟨by (with_reducible repeat (first | refine Zy ?_ _ | refine Z0 ?_ | refine Zx ?_ _)); exact BK358.out⟩,⟨by repeat (first | (with_reducible first | exact HB.out | apply Zd | apply Za | apply Zb | refine ZK ?_ GE358.out) | exact HB.out)⟩⟩
              · replace c13 := Bool.eq_false_iff.mpr c13
                subst c13
                have H1 : (Zm.j1 k1 l0 x11_1 l0 (l0.length : Int) x11_1 true ((Zg l0 x11_1).f0) ((Zg l0 x11_1).f1) ((Zg l0 x11_1).f2)) = some r := by rw [if_neg (show ¬ (false = true) by decide)] at H; exact H
                clear H; have H := H1; clear H1; have H' := Zc.mk H; clear H
                try go_wp2
                have n0_ : Zc ((((w8.setCell ⟨gb358,0,none⟩ (.int .i64 ((Zg l0 x11_1).f0))).setCell ⟨gb358,1,none⟩ (.int .i64 ((Zg l0 x11_1).f1))).setCell ⟨gb358,2,none⟩ (.int .i64 ((Zg l0 x11_1).f2))).heap[gb358]? = some (.cells #[.int .i64 ((Zg l0 x11_1).f0),.int .i64 ((Zg l0 x11_1).f1),.int .i64 ((Zg l0 x11_1).f2)] 56 (0,0))) := ⟨by (with_reducible repeat (first | refine Zy ?_ _ | refine Z0 ?_ | refine Zx ?_ _)); refine ZJ (cs := #[.int .i64 ((Zg l0 x11_1).f0),.int .i64 ((Zg l0 x11_1).f1),.int .i64 0]) ?_ 2 _ rfl; (with_reducible repeat (first | refine Zy ?_ _ | refine Z0 ?_ | refine Zx ?_ _)); refine ZJ (cs := #[.int .i64 ((Zg l0 x11_1).f0),.int .i64 0,.int .i64 0]) ?_ 1 _ rfl; (with_reducible repeat (first | refine Zy ?_ _ | refine Z0 ?_ | refine Zx ?_ _)); refine ZJ (cs := #[.int .i64 0,.int .i64 0,.int .i64 0]) ?_ 0 _ rfl; (with_reducible repeat (first | refine Zy ?_ _ | refine Z0 ?_ | refine Zx ?_ _)); exact BK358.out⟩
                have n1_ : Zc (Below w.heap.size w (((w8.setCell ⟨gb358,0,none⟩ (.int .i64 ((Zg l0 x11_1).f0))).setCell ⟨gb358,1,none⟩ (.int .i64 ((Zg l0 x11_1).f1))).setCell ⟨gb358,2,none⟩ (.int .i64 ((Zg l0 x11_1).f2)))) := ⟨by repeat (first | (with_reducible first | exact HB.out | apply Zd | apply Za | apply Zb | refine ZK ?_ GE358.out) | exact HB.out)⟩
                (try clear BK358)
                (try clear HB)
                generalize (((w8.setCell ⟨gb358,0,none⟩ (.int .i64 ((Zg l0 x11_1).f0))).setCell ⟨gb358,1,none⟩ (.int .i64 ((Zg l0 x11_1).f1))).setCell ⟨gb358,2,none⟩ (.int .i64 ((Zg l0 x11_1).f2))) = w26 at n0_ n1_ ⊢; have BK358 := n0_; have HB := n1_; clear n0_ n1_; have n0_ := Zc.mk (Z0 BK358.out); have n1_ := Zc.mk (Zb HB.out); clear BK358; clear HB; have BK358 := n0_; have HB := n1_; clear n0_ n1_; refine XC (n := 31) (S := fun w' => w'.cell? ⟨gb358,0,none⟩ = some (.int .i64 ((Zg l0 x11_1).f0)) ∧ w'.cell? ⟨gb358,1,none⟩ = some (.int .i64 ((Zg l0 x11_1).f1)) ∧ w'.cell? ⟨gb358,2,none⟩ = some (.int .i64 ((Zg l0 x11_1).f2))) (ds := []) #[G,G,G,G,G,G,G,G,G,G,G,G,G,G,G,G,G,G,G,G,G,G,G,G,G,G,G,G,G,G,G] (by kernel_rfl) rfl rfl ⟨(Zn BK358.out 0).trans rfl,(Zn BK358.out 1).trans rfl,(Zn BK358.out 2).trans rfl⟩ (fun hHeld => ?_); refine X1 Zm.tab6 Zm.bits6 (fun HT_ HW_ => ?_); generalize w26.drew = w27 at BK358 HB hHeld ⊢; refine pure_ (i := 0) (N := some 16) (v := ?_) (a' := ?_) #[O,G,G,G,G,G,G,G,G,G,G,G,G,G,G,G,G,G,G,G,G,G,G,G,G,G,G,G,G,G,G] rfl rfl (Zp HT_.out (by kernel_rfl)) (fun _ _ _ h => h) (Or.inl ⟨by rfl,?_⟩) ?_ ?_; rotate_left
                · intro w'
                  go_simp; with_reducible rfl
                rotate_left
                · simp only [Act.put,YD,YE,YF,i64_w,i32_w]
                  rfl
                refine take_ (i := 1) (N := some 17) (v := ?_) (a' := ?_) #[O,O,G,G,G,G,G,G,G,G,G,G,G,G,G,G,G,G,G,G,G,G,G,G,G,G,G,G,G,G,G] rfl rfl (Xe HT_.out HW_.out (by kernel_rfl)) (fun _ _ _ h => h) (Or.inl ⟨by rfl,?_⟩) hHeld ?_ ?_; rotate_left
                · rintro w' ⟨s0,s1,s2⟩
                  go_simp; with_reducible rfl
                rotate_left
                · simp only [Act.put,YD,YE,YF,i64_w,i32_w]
                  rfl
                refine one_ (i := 2) (N := some 18) #[O,O,O,G,G,G,G,G,G,G,G,G,G,G,G,G,G,G,G,G,G,G,G,G,G,G,G,G,G,G,G] rfl rfl (X4 HT_.out (by kernel_rfl)) (by decide) (fun K hK => ?_); refine goes_ Try.func43 (by kernel_rfl) rfl #[.int .i64 ((Zg l0 x11_1).f0),.int .i64 0,.int .i64 1000000000] (by rfl) rfl rfl (by (try simp only [List.map_toArray,List.map_cons,List.map_nil]); first | done | rfl | (simp only [List.length_drop,List.length_take]; rfl)) ?_
                with_reducible refine (Z6.calls ((Zg l0 x11_1).f0) 0 1000000000 true _ A10.out).mono ?_
                rintro e w' ⟨rfl,⟨nd,rfl⟩⟩; refine ⟨_,rfl,?_⟩; refine hK.out _ _ ⟨(Zn BK358.out 0).trans rfl,(Zn BK358.out 1).trans rfl,(Zn BK358.out 2).trans rfl⟩ (fun hHeld => ?_); clear hK K; refine norm_ (a' := ?_) ?_ ?_; rotate_left
                · show Act.put _ (some 18) _ = _
                  simp only [Act.put,YD,YE,YF,i64_w,i32_w]; rfl
                refine pure_ (i := 3) (N := some 19) (v := ?_) (a' := ?_) #[O,O,O,O,G,G,G,G,G,G,G,G,G,G,G,G,G,G,G,G,G,G,G,G,G,G,G,G,G,G,G] rfl rfl (Zp HT_.out (by kernel_rfl)) (fun _ _ _ h => h) (Or.inl ⟨by rfl,?_⟩) ?_ ?_; rotate_left
                · intro w'
                  go_simp; with_reducible rfl
                rotate_left
                · simp only [Act.put,YD,YE,YF,i64_w,i32_w]
                  rfl
                refine pure_ (i := 4) (N := some 20) (v := ?_) (a' := ?_) #[O,O,O,O,O,G,G,G,G,G,G,G,G,G,G,G,G,G,G,G,G,G,G,G,G,G,G,G,G,G,G] rfl rfl (Zp HT_.out (by kernel_rfl)) (fun _ _ _ h => h) (Or.inl ⟨by rfl,?_⟩) ?_ ?_; rotate_left
                · intro w'
                  go_simp; with_reducible rfl
                rotate_left
                · simp only [Act.put,YD,YE,YF,i64_w,i32_w]
                  rfl
                refine pure_ (i := 5) (N := some 21) (v := ?_) (a' := ?_) #[O,O,O,O,O,O,G,G,G,G,G,G,G,G,G,G,G,G,G,G,G,G,G,G,G,G,G,G,G,G,G] rfl rfl (Zp HT_.out (by kernel_rfl)) (fun _ _ _ h => h) (Or.inl ⟨by rfl,?_⟩) ?_ ?_; rotate_left
                · intro w'
                  go_simp; with_reducible rfl
                rotate_left
                · simp only [Act.put,YD,YE,YF,i64_w,i32_w]
                  rfl
                refine take_ (i := 6) (N := some 22) (v := ?_) (a' := ?_) #[O,O,O,O,O,O,O,G,G,G,G,G,G,G,G,G,G,G,G,G,G,G,G,G,G,G,G,G,G,G,G] rfl rfl (Xe HT_.out HW_.out (by kernel_rfl)) (fun _ _ _ h => h) (Or.inl ⟨by rfl,?_⟩) hHeld ?_ ?_; rotate_left
                · rintro w' ⟨s0,s1,s2⟩
                  go_simp; with_reducible rfl
                rotate_left
                · simp only [Act.put,YD,YE,YF,i64_w,i32_w]
                  rfl
                refine one_ (i := 7) (N := some 23) #[O,O,O,O,O,O,O,O,G,G,G,G,G,G,G,G,G,G,G,G,G,G,G,G,G,G,G,G,G,G,G] rfl rfl (X4 HT_.out (by kernel_rfl)) (by decide) (fun K hK => ?_); refine goes_ Try.func43 (by kernel_rfl) rfl #[.int .i64 ((Zg l0 x11_1).f1),.int .i64 (-8388607),.int .i64 8388607] (by rfl) rfl rfl (by (try simp only [List.map_toArray,List.map_cons,List.map_nil]); first | done | rfl | (simp only [List.length_drop,List.length_take]; rfl)) ?_
                with_reducible refine (Z6.calls ((Zg l0 x11_1).f1) (-8388607) 8388607 false _ A12.out).mono ?_
                rintro e w' ⟨rfl,⟨nd,rfl⟩⟩; refine ⟨_,rfl,?_⟩; refine hK.out _ _ ⟨(Zn BK358.out 0).trans rfl,(Zn BK358.out 1).trans rfl,(Zn BK358.out 2).trans rfl⟩ (fun hHeld => ?_); clear hK K; refine norm_ (a' := ?_) ?_ ?_; rotate_left
                · show Act.put _ (some 23) _ = _
                  simp only [Act.put,YD,YE,YF,i64_w,i32_w]; rfl
                refine pure_ (i := 8) (N := some 24) (v := ?_) (a' := ?_) #[O,O,O,O,O,O,O,O,O,G,G,G,G,G,G,G,G,G,G,G,G,G,G,G,G,G,G,G,G,G,G] rfl rfl (Zp HT_.out (by kernel_rfl)) (fun _ _ _ h => h) (Or.inl ⟨by rfl,?_⟩) ?_ ?_; rotate_left
                · intro w'
                  go_simp; with_reducible rfl
                rotate_left
                · simp only [Act.put,YD,YE,YF,i64_w,i32_w]
                  rfl
                refine pure_ (i := 9) (N := some 25) (v := ?_) (a' := ?_) #[O,O,O,O,O,O,O,O,O,O,G,G,G,G,G,G,G,G,G,G,G,G,G,G,G,G,G,G,G,G,G] rfl rfl (Zp HT_.out (by kernel_rfl)) (fun _ _ _ h => h) (Or.inl ⟨by rfl,?_⟩) ?_ ?_; rotate_left
                · intro w'
                  go_simp; with_reducible rfl
                rotate_left
                · simp only [Act.put,YD,YE,YF,i64_w,i32_w]
                  rfl
                refine pure_ (i := 10) (N := some 26) (v := ?_) (a' := ?_) #[O,O,O,O,O,O,O,O,O,O,O,G,G,G,G,G,G,G,G,G,G,G,G,G,G,G,G,G,G,G,G] rfl rfl (Zp HT_.out (by kernel_rfl)) (fun _ _ _ h => h) (Or.inl ⟨by rfl,?_⟩) ?_ ?_; rotate_left
                · intro w'
                  go_simp; with_reducible rfl
                rotate_left
                · simp only [Act.put,YD,YE,YF,i64_w,i32_w]
                  rfl
                refine pure_ (i := 11) (N := some 27) (v := undef) (a' := ?_) #[O,O,O,O,O,O,O,O,O,O,O,O,G,G,G,G,G,G,G,G,G,G,G,G,G,G,G,G,G,G,G] rfl rfl (Zp HT_.out (by kernel_rfl)) (fun _ _ _ h => h) (Or.inr ⟨by rfl,rfl⟩) ?_ ?_; rotate_left
                · simp only [Act.put,YD,YE,YF,i64_w,i32_w]
                  rfl
                refine pure_ (i := 12) (N := some 28) (v := undef) (a' := ?_) #[O,O,O,O,O,O,O,O,O,O,O,O,O,G,G,G,G,G,G,G,G,G,G,G,G,G,G,G,G,G,G] rfl rfl (Zp HT_.out (by kernel_rfl)) (fun _ _ _ h => h) (Or.inr ⟨by rfl,rfl⟩) ?_ ?_; rotate_left
                · simp only [Act.put,YD,YE,YF,i64_w,i32_w]
                  rfl
                refine pure_ (i := 13) (N := some 29) (v := undef) (a' := ?_) #[O,O,O,O,O,O,O,O,O,O,O,O,O,O,G,G,G,G,G,G,G,G,G,G,G,G,G,G,G,G,G] rfl rfl (Zp HT_.out (by kernel_rfl)) (fun _ _ _ h => h) (Or.inr ⟨by rfl,rfl⟩) ?_ ?_; rotate_left
                · simp only [Act.put,YD,YE,YF,i64_w,i32_w]
                  rfl
                refine pure_ (i := 14) (N := some 30) (v := undef) (a' := ?_) #[O,O,O,O,O,O,O,O,O,O,O,O,O,O,O,G,G,G,G,G,G,G,G,G,G,G,G,G,G,G,G] rfl rfl (Zp HT_.out (by kernel_rfl)) (fun _ _ _ h => h) (Or.inr ⟨by rfl,rfl⟩) ?_ ?_; rotate_left
                · simp only [Act.put,YD,YE,YF,i64_w,i32_w]
                  rfl
                refine pure_ (i := 15) (N := some 31) (v := ?_) (a' := ?_) #[O,O,O,O,O,O,O,O,O,O,O,O,O,O,O,O,G,G,G,G,G,G,G,G,G,G,G,G,G,G,G] rfl rfl (Zp HT_.out (by kernel_rfl)) (fun _ _ _ h => h) (Or.inl ⟨by rfl,?_⟩) ?_ ?_; rotate_left
                · intro w'
                  go_simp; with_reducible rfl
                rotate_left
                · simp only [Act.put,YD,YE,YF,i64_w,i32_w]
                  rfl
                refine pure_ (i := 16) (N := some 32) (v := ?_) (a' := ?_) #[O,O,O,O,O,O,O,O,O,O,O,O,O,O,O,O,O,G,G,G,G,G,G,G,G,G,G,G,G,G,G] rfl rfl (Zp HT_.out (by kernel_rfl)) (fun _ _ _ h => h) (Or.inl ⟨by rfl,?_⟩) ?_ ?_; rotate_left
                · intro w'
                  go_simp; with_reducible rfl
                rotate_left
                · simp only [Act.put,YD,YE,YF,i64_w,i32_w]
                  rfl
                refine pure_ (i := 17) (N := some 33) (v := undef) (a' := ?_) #[O,O,O,O,O,O,O,O,O,O,O,O,O,O,O,O,O,O,G,G,G,G,G,G,G,G,G,G,G,G,G] rfl rfl (Zp HT_.out (by kernel_rfl)) (fun _ _ _ h => h) (Or.inr ⟨by rfl,rfl⟩) ?_ ?_; rotate_left
                · simp only [Act.put,YD,YE,YF,i64_w,i32_w]
                  rfl
                refine pure_ (i := 18) (N := some 34) (v := undef) (a' := ?_) #[O,O,O,O,O,O,O,O,O,O,O,O,O,O,O,O,O,O,O,G,G,G,G,G,G,G,G,G,G,G,G] rfl rfl (Zp HT_.out (by kernel_rfl)) (fun _ _ _ h => h) (Or.inr ⟨by rfl,rfl⟩) ?_ ?_; rotate_left
                · simp only [Act.put,YD,YE,YF,i64_w,i32_w]
                  rfl
                refine pure_ (i := 19) (N := some 35) (v := undef) (a' := ?_) #[O,O,O,O,O,O,O,O,O,O,O,O,O,O,O,O,O,O,O,O,G,G,G,G,G,G,G,G,G,G,G] rfl rfl (Zp HT_.out (by kernel_rfl)) (fun _ _ _ h => h) (Or.inr ⟨by rfl,rfl⟩) ?_ ?_; rotate_left
                · simp only [Act.put,YD,YE,YF,i64_w,i32_w]
                  rfl
                refine pure_ (i := 20) (N := some 36) (v := undef) (a' := ?_) #[O,O,O,O,O,O,O,O,O,O,O,O,O,O,O,O,O,O,O,O,O,G,G,G,G,G,G,G,G,G,G] rfl rfl (Zp HT_.out (by kernel_rfl)) (fun _ _ _ h => h) (Or.inr ⟨by rfl,rfl⟩) ?_ ?_; rotate_left
                · simp only [Act.put,YD,YE,YF,i64_w,i32_w]
                  rfl
                refine pure_ (i := 21) (N := some 37) (v := undef) (a' := ?_) #[O,O,O,O,O,O,O,O,O,O,O,O,O,O,O,O,O,O,O,O,O,O,G,G,G,G,G,G,G,G,G] rfl rfl (Zp HT_.out (by kernel_rfl)) (fun _ _ _ h => h) (Or.inr ⟨by rfl,rfl⟩) ?_ ?_; rotate_left
                · simp only [Act.put,YD,YE,YF,i64_w,i32_w]
                  rfl
                refine pure_ (i := 22) (N := some 38) (v := undef) (a' := ?_) #[O,O,O,O,O,O,O,O,O,O,O,O,O,O,O,O,O,O,O,O,O,O,O,G,G,G,G,G,G,G,G] rfl rfl (Zp HT_.out (by kernel_rfl)) (fun _ _ _ h => h) (Or.inr ⟨by rfl,rfl⟩) ?_ ?_; rotate_left
                · simp only [Act.put,YD,YE,YF,i64_w,i32_w]
                  rfl
                refine pure_ (i := 23) (N := some 39) (v := undef) (a' := ?_) #[O,O,O,O,O,O,O,O,O,O,O,O,O,O,O,O,O,O,O,O,O,O,O,O,G,G,G,G,G,G,G] rfl rfl (Zp HT_.out (by kernel_rfl)) (fun _ _ _ h => h) (Or.inr ⟨by rfl,rfl⟩) ?_ ?_; rotate_left
                · simp only [Act.put,YD,YE,YF,i64_w,i32_w]
                  rfl
                refine pure_ (i := 24) (N := some 40) (v := undef) (a' := ?_) #[O,O,O,O,O,O,O,O,O,O,O,O,O,O,O,O,O,O,O,O,O,O,O,O,O,G,G,G,G,G,G] rfl rfl (Zp HT_.out (by kernel_rfl)) (fun _ _ _ h => h) (Or.inr ⟨by rfl,rfl⟩) ?_ ?_; rotate_left
                · simp only [Act.put,YD,YE,YF,i64_w,i32_w]
                  rfl
                refine pure_ (i := 25) (N := some 41) (v := undef) (a' := ?_) #[O,O,O,O,O,O,O,O,O,O,O,O,O,O,O,O,O,O,O,O,O,O,O,O,O,O,G,G,G,G,G] rfl rfl (Zp HT_.out (by kernel_rfl)) (fun _ _ _ h => h) (Or.inr ⟨by rfl,rfl⟩) ?_ ?_; rotate_left
                · simp only [Act.put,YD,YE,YF,i64_w,i32_w]
                  rfl
                refine pure_ (i := 26) (N := some 42) (v := undef) (a' := ?_) #[O,O,O,O,O,O,O,O,O,O,O,O,O,O,O,O,O,O,O,O,O,O,O,O,O,O,O,G,G,G,G] rfl rfl (Zp HT_.out (by kernel_rfl)) (fun _ _ _ h => h) (Or.inr ⟨by rfl,rfl⟩) ?_ ?_; rotate_left
                · simp only [Act.put,YD,YE,YF,i64_w,i32_w]
                  rfl
                refine pure_ (i := 27) (N := some 43) (v := undef) (a' := ?_) #[O,O,O,O,O,O,O,O,O,O,O,O,O,O,O,O,O,O,O,O,O,O,O,O,O,O,O,O,G,G,G] rfl rfl (Zp HT_.out (by kernel_rfl)) (fun _ _ _ h => h) (Or.inr ⟨by rfl,rfl⟩) ?_ ?_; rotate_left
                · simp only [Act.put,YD,YE,YF,i64_w,i32_w]
                  rfl
                refine pure_ (i := 28) (N := some 44) (v := undef) (a' := ?_) #[O,O,O,O,O,O,O,O,O,O,O,O,O,O,O,O,O,O,O,O,O,O,O,O,O,O,O,O,O,G,G] rfl rfl (Zp HT_.out (by kernel_rfl)) (fun _ _ _ h => h) (Or.inr ⟨by rfl,rfl⟩) ?_ ?_; rotate_left
                · simp only [Act.put,YD,YE,YF,i64_w,i32_w]
                  rfl
                refine pure_ (i := 29) (N := some 45) (v := undef) (a' := ?_) #[O,O,O,O,O,O,O,O,O,O,O,O,O,O,O,O,O,O,O,O,O,O,O,O,O,O,O,O,O,O,G] rfl rfl (Zp HT_.out (by kernel_rfl)) (fun _ _ _ h => h) (Or.inr ⟨by rfl,rfl⟩) ?_ ?_; rotate_left
                · simp only [Act.put,YD,YE,YF,i64_w,i32_w]
                  rfl
                refine pure_ (i := 30) (N := some 46) (v := ?_) (a' := ?_) #[O,O,O,O,O,O,O,O,O,O,O,O,O,O,O,O,O,O,O,O,O,O,O,O,O,O,O,O,O,O,O] rfl rfl (Zp HT_.out (by kernel_rfl)) (fun _ _ _ h => h) (Or.inl ⟨by rfl,?_⟩) ?_ ?_; rotate_left
                · intro w'
                  go_simp; with_reducible rfl
                rotate_left
                · simp only [Act.put,YD,YE,YF,i64_w,i32_w]
                  rfl
                refine done_ (X7 HT_.out (by kernel_rfl)) ?_
                try go_wp2
                go_meet
                case rel => exact ⟨_,(true),(by first | rfl | (simp; done) | (simp [*]; done)),H',⟨by have := HK1.out; first | omega | exact Nat.le_refl _⟩,⟨by (with_reducible repeat (first | refine Zy ?_ _ | refine Z0 ?_ | refine Zx ?_ _)); exact BK358.out⟩,⟨by repeat (first | (with_reducible first | exact HB.out | apply Zd | apply Za | apply Zb | refine ZK ?_ GE358.out) | exact HB.out)⟩⟩
            · replace c11 := Bool.eq_false_iff.mpr c11
              subst c11
              have H1 : (Zm.j1 k1 l0 x11_1 l0 (l0.length : Int) x11_1 true ((Zg l0 x11_1).f0) ((Zg l0 x11_1).f1) ((Zg l0 x11_1).f2)) = some r := by rw [if_neg (show ¬ (false = true) by decide)] at H; exact H
              clear H; have H := H1; clear H1; have H' := Zc.mk H; clear H
              try go_wp2
              have n0_ : Zc ((((w8.setCell ⟨gb358,0,none⟩ (.int .i64 ((Zg l0 x11_1).f0))).setCell ⟨gb358,1,none⟩ (.int .i64 ((Zg l0 x11_1).f1))).setCell ⟨gb358,2,none⟩ (.int .i64 ((Zg l0 x11_1).f2))).heap[gb358]? = some (.cells #[.int .i64 ((Zg l0 x11_1).f0),.int .i64 ((Zg l0 x11_1).f1),.int .i64 ((Zg l0 x11_1).f2)] 56 (0,0))) := ⟨by (with_reducible repeat (first | refine Zy ?_ _ | refine Z0 ?_ | refine Zx ?_ _)); refine ZJ (cs := #[.int .i64 ((Zg l0 x11_1).f0),.int .i64 ((Zg l0 x11_1).f1),.int .i64 0]) ?_ 2 _ rfl; (with_reducible repeat (first | refine Zy ?_ _ | refine Z0 ?_ | refine Zx ?_ _)); refine ZJ (cs := #[.int .i64 ((Zg l0 x11_1).f0),.int .i64 0,.int .i64 0]) ?_ 1 _ rfl; (with_reducible repeat (first | refine Zy ?_ _ | refine Z0 ?_ | refine Zx ?_ _)); refine ZJ (cs := #[.int .i64 0,.int .i64 0,.int .i64 0]) ?_ 0 _ rfl; (with_reducible repeat (first | refine Zy ?_ _ | refine Z0 ?_ | refine Zx ?_ _)); exact BK358.out⟩
              have n1_ : Zc (Below w.heap.size w (((w8.setCell ⟨gb358,0,none⟩ (.int .i64 ((Zg l0 x11_1).f0))).setCell ⟨gb358,1,none⟩ (.int .i64 ((Zg l0 x11_1).f1))).setCell ⟨gb358,2,none⟩ (.int .i64 ((Zg l0 x11_1).f2)))) := ⟨by repeat (first | (with_reducible first | exact HB.out | apply Zd | apply Za | apply Zb | refine ZK ?_ GE358.out) | exact HB.out)⟩
              (try clear BK358)
              (try clear HB)
              generalize (((w8.setCell ⟨gb358,0,none⟩ (.int .i64 ((Zg l0 x11_1).f0))).setCell ⟨gb358,1,none⟩ (.int .i64 ((Zg l0 x11_1).f1))).setCell ⟨gb358,2,none⟩ (.int .i64 ((Zg l0 x11_1).f2))) = w28 at n0_ n1_ ⊢; have BK358 := n0_; have HB := n1_; clear n0_ n1_; have n0_ := Zc.mk (Z0 BK358.out); have n1_ := Zc.mk (Zb HB.out); clear BK358; clear HB; have BK358 := n0_; have HB := n1_; clear n0_ n1_; refine XC (n := 31) (S := fun w' => w'.cell? ⟨gb358,0,none⟩ = some (.int .i64 ((Zg l0 x11_1).f0)) ∧ w'.cell? ⟨gb358,1,none⟩ = some (.int .i64 ((Zg l0 x11_1).f1)) ∧ w'.cell? ⟨gb358,2,none⟩ = some (.int .i64 ((Zg l0 x11_1).f2))) (ds := []) #[G,G,G,G,G,G,G,G,G,G,G,G,G,G,G,G,G,G,G,G,G,G,G,G,G,G,G,G,G,G,G] (by kernel_rfl) rfl rfl ⟨(Zn BK358.out 0).trans rfl,(Zn BK358.out 1).trans rfl,(Zn BK358.out 2).trans rfl⟩ (fun hHeld => ?_); refine X1 Zm.tab6 Zm.bits6 (fun HT_ HW_ => ?_); generalize w28.drew = w29 at BK358 HB hHeld ⊢; refine pure_ (i := 0) (N := some 16) (v := ?_) (a' := ?_) #[O,G,G,G,G,G,G,G,G,G,G,G,G,G,G,G,G,G,G,G,G,G,G,G,G,G,G,G,G,G,G] rfl rfl (Zp HT_.out (by kernel_rfl)) (fun _ _ _ h => h) (Or.inl ⟨by rfl,?_⟩) ?_ ?_; rotate_left
              · intro w'
                go_simp; with_reducible rfl
              rotate_left
              · simp only [Act.put,YD,YE,YF,i64_w,i32_w]
                rfl
              refine take_ (i := 1) (N := some 17) (v := ?_) (a' := ?_) #[O,O,G,G,G,G,G,G,G,G,G,G,G,G,G,G,G,G,G,G,G,G,G,G,G,G,G,G,G,G,G] rfl rfl (Xe HT_.out HW_.out (by kernel_rfl)) (fun _ _ _ h => h) (Or.inl ⟨by rfl,?_⟩) hHeld ?_ ?_; rotate_left
              · rintro w' ⟨s0,s1,s2⟩
                go_simp; with_reducible rfl
              rotate_left
              · simp only [Act.put,YD,YE,YF,i64_w,i32_w]
                rfl
              refine one_ (i := 2) (N := some 18) #[O,O,O,G,G,G,G,G,G,G,G,G,G,G,G,G,G,G,G,G,G,G,G,G,G,G,G,G,G,G,G] rfl rfl (X4 HT_.out (by kernel_rfl)) (by decide) (fun K hK => ?_); refine goes_ Try.func43 (by kernel_rfl) rfl #[.int .i64 ((Zg l0 x11_1).f0),.int .i64 0,.int .i64 1000000000] (by rfl) rfl rfl (by (try simp only [List.map_toArray,List.map_cons,List.map_nil]); first | done | rfl | (simp only [List.length_drop,List.length_take]; rfl)) ?_
              with_reducible refine (Z6.calls ((Zg l0 x11_1).f0) 0 1000000000 false _ A10.out).mono ?_
              rintro e w' ⟨rfl,⟨nd,rfl⟩⟩; refine ⟨_,rfl,?_⟩; refine hK.out _ _ ⟨(Zn BK358.out 0).trans rfl,(Zn BK358.out 1).trans rfl,(Zn BK358.out 2).trans rfl⟩ (fun hHeld => ?_); clear hK K; refine norm_ (a' := ?_) ?_ ?_; rotate_left
              · show Act.put _ (some 18) _ = _
                simp only [Act.put,YD,YE,YF,i64_w,i32_w]; rfl
              refine pure_ (i := 3) (N := some 19) (v := ?_) (a' := ?_) #[O,O,O,O,G,G,G,G,G,G,G,G,G,G,G,G,G,G,G,G,G,G,G,G,G,G,G,G,G,G,G] rfl rfl (Zp HT_.out (by kernel_rfl)) (fun _ _ _ h => h) (Or.inl ⟨by rfl,?_⟩) ?_ ?_; rotate_left
              · intro w'
                go_simp; with_reducible rfl
              rotate_left
              · simp only [Act.put,YD,YE,YF,i64_w,i32_w]
                rfl
              refine pure_ (i := 4) (N := some 20) (v := ?_) (a' := ?_) #[O,O,O,O,O,G,G,G,G,G,G,G,G,G,G,G,G,G,G,G,G,G,G,G,G,G,G,G,G,G,G] rfl rfl (Zp HT_.out (by kernel_rfl)) (fun _ _ _ h => h) (Or.inl ⟨by rfl,?_⟩) ?_ ?_; rotate_left
              · intro w'
                go_simp; with_reducible rfl
              rotate_left
              · simp only [Act.put,YD,YE,YF,i64_w,i32_w]
                rfl
              refine pure_ (i := 5) (N := some 21) (v := undef) (a' := ?_) #[O,O,O,O,O,O,G,G,G,G,G,G,G,G,G,G,G,G,G,G,G,G,G,G,G,G,G,G,G,G,G] rfl rfl (Zp HT_.out (by kernel_rfl)) (fun _ _ _ h => h) (Or.inr ⟨by rfl,rfl⟩) ?_ ?_; rotate_left
              · simp only [Act.put,YD,YE,YF,i64_w,i32_w]
                rfl
              refine pure_ (i := 6) (N := some 22) (v := undef) (a' := ?_) #[O,O,O,O,O,O,O,G,G,G,G,G,G,G,G,G,G,G,G,G,G,G,G,G,G,G,G,G,G,G,G] rfl rfl (Zp HT_.out (by kernel_rfl)) (fun _ _ _ h => h) (Or.inr ⟨by rfl,rfl⟩) ?_ ?_; rotate_left
              · simp only [Act.put,YD,YE,YF,i64_w,i32_w]
                rfl
              refine pure_ (i := 7) (N := some 23) (v := undef) (a' := ?_) #[O,O,O,O,O,O,O,O,G,G,G,G,G,G,G,G,G,G,G,G,G,G,G,G,G,G,G,G,G,G,G] rfl rfl (Zp HT_.out (by kernel_rfl)) (fun _ _ _ h => h) (Or.inr ⟨by rfl,rfl⟩) ?_ ?_; rotate_left
              · simp only [Act.put,YD,YE,YF,i64_w,i32_w]
                rfl
              refine pure_ (i := 8) (N := some 24) (v := undef) (a' := ?_) #[O,O,O,O,O,O,O,O,O,G,G,G,G,G,G,G,G,G,G,G,G,G,G,G,G,G,G,G,G,G,G] rfl rfl (Zp HT_.out (by kernel_rfl)) (fun _ _ _ h => h) (Or.inr ⟨by rfl,rfl⟩) ?_ ?_; rotate_left
              · simp only [Act.put,YD,YE,YF,i64_w,i32_w]
                rfl
              refine pure_ (i := 9) (N := some 25) (v := ?_) (a' := ?_) #[O,O,O,O,O,O,O,O,O,O,G,G,G,G,G,G,G,G,G,G,G,G,G,G,G,G,G,G,G,G,G] rfl rfl (Zp HT_.out (by kernel_rfl)) (fun _ _ _ h => h) (Or.inl ⟨by rfl,?_⟩) ?_ ?_; rotate_left
              · intro w'
                go_simp; with_reducible rfl
              rotate_left
              · simp only [Act.put,YD,YE,YF,i64_w,i32_w]
                rfl
              refine pure_ (i := 10) (N := some 26) (v := ?_) (a' := ?_) #[O,O,O,O,O,O,O,O,O,O,O,G,G,G,G,G,G,G,G,G,G,G,G,G,G,G,G,G,G,G,G] rfl rfl (Zp HT_.out (by kernel_rfl)) (fun _ _ _ h => h) (Or.inl ⟨by rfl,?_⟩) ?_ ?_; rotate_left
              · intro w'
                go_simp; with_reducible rfl
              rotate_left
              · simp only [Act.put,YD,YE,YF,i64_w,i32_w]
                rfl
              refine pure_ (i := 11) (N := some 27) (v := undef) (a' := ?_) #[O,O,O,O,O,O,O,O,O,O,O,O,G,G,G,G,G,G,G,G,G,G,G,G,G,G,G,G,G,G,G] rfl rfl (Zp HT_.out (by kernel_rfl)) (fun _ _ _ h => h) (Or.inr ⟨by rfl,rfl⟩) ?_ ?_; rotate_left
              · simp only [Act.put,YD,YE,YF,i64_w,i32_w]
                rfl
              refine pure_ (i := 12) (N := some 28) (v := undef) (a' := ?_) #[O,O,O,O,O,O,O,O,O,O,O,O,O,G,G,G,G,G,G,G,G,G,G,G,G,G,G,G,G,G,G] rfl rfl (Zp HT_.out (by kernel_rfl)) (fun _ _ _ h => h) (Or.inr ⟨by rfl,rfl⟩) ?_ ?_; rotate_left
              · simp only [Act.put,YD,YE,YF,i64_w,i32_w]
                rfl
              refine pure_ (i := 13) (N := some 29) (v := undef) (a' := ?_) #[O,O,O,O,O,O,O,O,O,O,O,O,O,O,G,G,G,G,G,G,G,G,G,G,G,G,G,G,G,G,G] rfl rfl (Zp HT_.out (by kernel_rfl)) (fun _ _ _ h => h) (Or.inr ⟨by rfl,rfl⟩) ?_ ?_; rotate_left
              · simp only [Act.put,YD,YE,YF,i64_w,i32_w]
                rfl
              refine pure_ (i := 14) (N := some 30) (v := undef) (a' := ?_) #[O,O,O,O,O,O,O,O,O,O,O,O,O,O,O,G,G,G,G,G,G,G,G,G,G,G,G,G,G,G,G] rfl rfl (Zp HT_.out (by kernel_rfl)) (fun _ _ _ h => h) (Or.inr ⟨by rfl,rfl⟩) ?_ ?_; rotate_left
              · simp only [Act.put,YD,YE,YF,i64_w,i32_w]
                rfl
              refine pure_ (i := 15) (N := some 31) (v := ?_) (a' := ?_) #[O,O,O,O,O,O,O,O,O,O,O,O,O,O,O,O,G,G,G,G,G,G,G,G,G,G,G,G,G,G,G] rfl rfl (Zp HT_.out (by kernel_rfl)) (fun _ _ _ h => h) (Or.inl ⟨by rfl,?_⟩) ?_ ?_; rotate_left
              · intro w'
                go_simp; with_reducible rfl
              rotate_left
              · simp only [Act.put,YD,YE,YF,i64_w,i32_w]
                rfl
              refine pure_ (i := 16) (N := some 32) (v := ?_) (a' := ?_) #[O,O,O,O,O,O,O,O,O,O,O,O,O,O,O,O,O,G,G,G,G,G,G,G,G,G,G,G,G,G,G] rfl rfl (Zp HT_.out (by kernel_rfl)) (fun _ _ _ h => h) (Or.inl ⟨by rfl,?_⟩) ?_ ?_; rotate_left
              · intro w'
                go_simp; with_reducible rfl
              rotate_left
              · simp only [Act.put,YD,YE,YF,i64_w,i32_w]
                rfl
              refine pure_ (i := 17) (N := some 33) (v := undef) (a' := ?_) #[O,O,O,O,O,O,O,O,O,O,O,O,O,O,O,O,O,O,G,G,G,G,G,G,G,G,G,G,G,G,G] rfl rfl (Zp HT_.out (by kernel_rfl)) (fun _ _ _ h => h) (Or.inr ⟨by rfl,rfl⟩) ?_ ?_; rotate_left
              · simp only [Act.put,YD,YE,YF,i64_w,i32_w]
                rfl
              refine pure_ (i := 18) (N := some 34) (v := undef) (a' := ?_) #[O,O,O,O,O,O,O,O,O,O,O,O,O,O,O,O,O,O,O,G,G,G,G,G,G,G,G,G,G,G,G] rfl rfl (Zp HT_.out (by kernel_rfl)) (fun _ _ _ h => h) (Or.inr ⟨by rfl,rfl⟩) ?_ ?_; rotate_left
              · simp only [Act.put,YD,YE,YF,i64_w,i32_w]
                rfl
              refine pure_ (i := 19) (N := some 35) (v := undef) (a' := ?_) #[O,O,O,O,O,O,O,O,O,O,O,O,O,O,O,O,O,O,O,O,G,G,G,G,G,G,G,G,G,G,G] rfl rfl (Zp HT_.out (by kernel_rfl)) (fun _ _ _ h => h) (Or.inr ⟨by rfl,rfl⟩) ?_ ?_; rotate_left
              · simp only [Act.put,YD,YE,YF,i64_w,i32_w]
                rfl
              refine pure_ (i := 20) (N := some 36) (v := undef) (a' := ?_) #[O,O,O,O,O,O,O,O,O,O,O,O,O,O,O,O,O,O,O,O,O,G,G,G,G,G,G,G,G,G,G] rfl rfl (Zp HT_.out (by kernel_rfl)) (fun _ _ _ h => h) (Or.inr ⟨by rfl,rfl⟩) ?_ ?_; rotate_left
              · simp only [Act.put,YD,YE,YF,i64_w,i32_w]
                rfl
              refine pure_ (i := 21) (N := some 37) (v := undef) (a' := ?_) #[O,O,O,O,O,O,O,O,O,O,O,O,O,O,O,O,O,O,O,O,O,O,G,G,G,G,G,G,G,G,G] rfl rfl (Zp HT_.out (by kernel_rfl)) (fun _ _ _ h => h) (Or.inr ⟨by rfl,rfl⟩) ?_ ?_; rotate_left
              · simp only [Act.put,YD,YE,YF,i64_w,i32_w]
                rfl
              refine pure_ (i := 22) (N := some 38) (v := undef) (a' := ?_) #[O,O,O,O,O,O,O,O,O,O,O,O,O,O,O,O,O,O,O,O,O,O,O,G,G,G,G,G,G,G,G] rfl rfl (Zp HT_.out (by kernel_rfl)) (fun _ _ _ h => h) (Or.inr ⟨by rfl,rfl⟩) ?_ ?_; rotate_left
              · simp only [Act.put,YD,YE,YF,i64_w,i32_w]
                rfl
              refine pure_ (i := 23) (N := some 39) (v := undef) (a' := ?_) #[O,O,O,O,O,O,O,O,O,O,O,O,O,O,O,O,O,O,O,O,O,O,O,O,G,G,G,G,G,G,G] rfl rfl (Zp HT_.out (by kernel_rfl)) (fun _ _ _ h => h) (Or.inr ⟨by rfl,rfl⟩) ?_ ?_; rotate_left
              · simp only [Act.put,YD,YE,YF,i64_w,i32_w]
                rfl
              refine pure_ (i := 24) (N := some 40) (v := undef) (a' := ?_) #[O,O,O,O,O,O,O,O,O,O,O,O,O,O,O,O,O,O,O,O,O,O,O,O,O,G,G,G,G,G,G] rfl rfl (Zp HT_.out (by kernel_rfl)) (fun _ _ _ h => h) (Or.inr ⟨by rfl,rfl⟩) ?_ ?_; rotate_left
              · simp only [Act.put,YD,YE,YF,i64_w,i32_w]
                rfl
              refine pure_ (i := 25) (N := some 41) (v := undef) (a' := ?_) #[O,O,O,O,O,O,O,O,O,O,O,O,O,O,O,O,O,O,O,O,O,O,O,O,O,O,G,G,G,G,G] rfl rfl (Zp HT_.out (by kernel_rfl)) (fun _ _ _ h => h) (Or.inr ⟨by rfl,rfl⟩) ?_ ?_; rotate_left
              · simp only [Act.put,YD,YE,YF,i64_w,i32_w]
                rfl
              refine pure_ (i := 26) (N := some 42) (v := undef) (a' := ?_) #[O,O,O,O,O,O,O,O,O,O,O,O,O,O,O,O,O,O,O,O,O,O,O,O,O,O,O,G,G,G,G] rfl rfl (Zp HT_.out (by kernel_rfl)) (fun _ _ _ h => h) (Or.inr ⟨by rfl,rfl⟩) ?_ ?_; rotate_left
              · simp only [Act.put,YD,YE,YF,i64_w,i32_w]
                rfl
              refine pure_ (i := 27) (N := some 43) (v := undef) (a' := ?_) #[O,O,O,O,O,O,O,O,O,O,O,O,O,O,O,O,O,O,O,O,O,O,O,O,O,O,O,O,G,G,G] rfl rfl (Zp HT_.out (by kernel_rfl)) (fun _ _ _ h => h) (Or.inr ⟨by rfl,rfl⟩) ?_ ?_; rotate_left
              · simp only [Act.put,YD,YE,YF,i64_w,i32_w]
                rfl
              refine pure_ (i := 28) (N := some 44) (v := undef) (a' := ?_) #[O,O,O,O,O,O,O,O,O,O,O,O,O,O,O,O,O,O,O,O,O,O,O,O,O,O,O,O,O,G,G] rfl rfl (Zp HT_.out (by kernel_rfl)) (fun _ _ _ h => h) (Or.inr ⟨by rfl,rfl⟩) ?_ ?_; rotate_left
              · simp only [Act.put,YD,YE,YF,i64_w,i32_w]
                rfl
              refine pure_ (i := 29) (N := some 45) (v := undef) (a' := ?_) #[O,O,O,O,O,O,O,O,O,O,O,O,O,O,O,O,O,O,O,O,O,O,O,O,O,O,O,O,O,O,G] rfl rfl (Zp HT_.out (by kernel_rfl)) (fun _ _ _ h => h) (Or.inr ⟨by rfl,rfl⟩) ?_ ?_; rotate_left
              · simp only [Act.put,YD,YE,YF,i64_w,i32_w]
                rfl
              refine pure_ (i := 30) (N := some 46) (v := ?_) (a' := ?_) #[O,O,O,O,O,O,O,O,O,O,O,O,O,O,O,O,O,O,O,O,O,O,O,O,O,O,O,O,O,O,O] rfl rfl (Zp HT_.out (by kernel_rfl)) (fun _ _ _ h => h) (Or.inl ⟨by rfl,?_⟩) ?_ ?_; rotate_left
              · intro w'
                go_simp; with_reducible rfl
              rotate_left
              · simp only [Act.put,YD,YE,YF,i64_w,i32_w]
                rfl
              refine done_ (X7 HT_.out (by kernel_rfl)) ?_
              try go_wp2
              go_meet
              case rel => exact ⟨_,(true),(by first | rfl | (simp; done) | (simp [*]; done)),H',⟨by have := HK1.out; first | omega | exact Nat.le_refl _⟩,⟨by (with_reducible repeat (first | refine Zy ?_ _ | refine Z0 ?_ | refine Zx ?_ _)); exact BK358.out⟩,⟨by repeat (first | (with_reducible first | exact HB.out | apply Zd | apply Za | apply Zb | refine ZK ?_ GE358.out) | exact HB.out)⟩⟩
           case rest =>
            clear HC7
            (try clear c1); (try clear p2); (try clear c4); (try clear c11); (try clear c13)
            obtain ⟨kq,x46_6,rfl,HA,HJ6,BK358,HB⟩ := hcut
            cases kq with
            | zero => exact absurd HA.out (by simp [Zm.j1])
            | succ kj6 =>
             have H := HA.out; clear HA; simp only [Zm.j1] at H
             by_cases c30 : x46_6 = true
             · subst c30
               have H1 : (some false) = some r := by rw [if_pos rfl] at H; exact H
               clear H; have H := H1; clear H1; obtain rfl := Option.some.inj H
               go_wp2
               go_ret; exact ⟨by first | rfl | (simp [Zv,Zu] <;> rfl) | (simp [*,Zv,Zu] <;> rfl),by repeat (first | (with_reducible first | exact HB.out | apply Zd | apply Za | apply Zb | refine ZK ?_ GE358.out) | exact HB.out)⟩
             · replace c30 := Bool.eq_false_iff.mpr c30
               subst c30
               have H1 : (if ((Zg l0 x11_1).f2) = 2 then (if (wrap64 (x11_1 + 1)) < (l0.length : Int) then (if 0 ≤ (wrap64 (x11_1 + 1)) then (if (wrap64 (((Zg l0 (wrap64 (x11_1 + 1))).f0) - ((Zg l0 x11_1).f0))) > 1000 then (some false) else (Zm.l0 kj6 l0 l0 (l0.length : Int) (wrap64 (x11_1 + 1)))) else (none)) else (Zm.l0 kj6 l0 l0 (l0.length : Int) (wrap64 (x11_1 + 1)))) else (Zm.l0 kj6 l0 l0 (l0.length : Int) (wrap64 (x11_1 + 1)))) = some r := by rw [if_neg (show ¬ (false = true) by decide)] at H; exact H
               clear H; have H := H1; clear H1
               by_cases c31 : ((Zg l0 x11_1).f2) = 2
               · rw [if_pos c31] at H
                 have c31b0 : (((Zg l0 x11_1).f2) == 2) = true := beq_iff_eq.mpr c31; have c31b1 : (((Zg l0 x11_1).f2) != 2) = false := bne_eq_false_iff_eq.mpr c31; clear c31
                 by_cases c32 : (wrap64 (x11_1 + 1)) < (l0.length : Int)
                 · rw [if_pos c32] at H
                   have c32b0 : decide ((wrap64 (x11_1 + 1)) < (l0.length : Int)) = true := decide_eq_true c32; clear c32
                   obtain ⟨ji33,hji33⟩ : ∃ j_ : Int,(wrap64 (x11_1 + 1)) = j_ := ⟨_,rfl⟩
                   replace H : (if 0 ≤ (ji33) then (if (wrap64 (((Zg l0 (ji33)).f0) - ((Zg l0 x11_1).f0))) > 1000 then (some false) else (Zm.l0 kj6 l0 l0 (l0.length : Int) ji33)) else (none)) = some r := by first | (rw [hji33] at H; exact H) | (simp only [hji33] at H ⊢; exact H)
                   (try rw [hji33] at c32b0)
                   have hji33w : (IntKind.i64.wrap (x11_1 + 1)) = ji33 := (i64_w _).trans hji33
                   by_cases c34 : 0 ≤ (ji33)
                   · rw [if_pos c34] at H
                     have c34b0 : decide (0 ≤ (ji33)) = true := decide_eq_true c34; clear c34
                     by_cases c35 : (wrap64 (((Zg l0 (ji33)).f0) - ((Zg l0 x11_1).f0))) > 1000
                     · rw [if_pos c35] at H
                       have c35b0 : decide (1000 < (wrap64 (((Zg l0 (ji33)).f0) - ((Zg l0 x11_1).f0)))) = true := decide_eq_true c35; clear c35; obtain rfl := Option.some.inj H
                       try go_wp2
                       have n0_ := Zc.mk (Z0 BK358.out); have n1_ := Zc.mk (Zb HB.out); clear BK358; clear HB; have BK358 := n0_; have HB := n1_; clear n0_ n1_; have p363 : 0 ≤ ((ji33) : Int) := of_decide_eq_true (by first | (with_reducible assumption) | assumption); have q363 : (ji33) < (l0.length : Int) := of_decide_eq_true (by first | (with_reducible assumption) | assumption); obtain ⟨ad363,e363,hx363_0,hx363_1,hx363_2⟩ := Xx HR0.out (ji33) p363 q363; have hw363_2 := hx363_2; have hw363_1 := hx363_1; have hw363_0 := hx363_0
                       obtain rfl : ad357 = ad363 := (by injection e363)
                       replace hx363_0 := (HB.out.cell (World.block_lt_of_cell? w _ hx363_0)).trans hx363_0; replace hx363_1 := (HB.out.cell (World.block_lt_of_cell? w _ hx363_1)).trans hx363_1; replace hx363_2 := (HB.out.cell (World.block_lt_of_cell? w _ hx363_2)).trans hx363_2; replace p363 := eq_true p363; replace q363 := eq_true q363; refine XC (n := 22) (S := fun w' => w'.cell? ⟨gb358,0,none⟩ = some (.int .i64 ((Zg l0 x11_1).f0)) ∧ w'.cell? ⟨gb358,1,none⟩ = some (.int .i64 ((Zg l0 x11_1).f1)) ∧ w'.cell? ⟨gb358,2,none⟩ = some (.int .i64 ((Zg l0 x11_1).f2)) ∧ w'.cell? (ad357.add (((ji33)).toNat * 3)) = some (.int .i64 ((Zg l0 (ji33)).f0)) ∧ w'.cell? ⟨(ad357.add (((ji33)).toNat * 3)).block,(ad357.add (((ji33)).toNat * 3)).off + 1,none⟩ = some (.int .i64 ((Zg l0 (ji33)).f1)) ∧ w'.cell? ⟨(ad357.add (((ji33)).toNat * 3)).block,(ad357.add (((ji33)).toNat * 3)).off + 2,none⟩ = some (.int .i64 ((Zg l0 (ji33)).f2))) (ds := []) #[G,G,G,G,G,G,G,G,G,G,G,G,G,G,G,G,G,G,G,G,G,G] (by kernel_rfl) rfl rfl ⟨(Zn BK358.out 0).trans rfl,(Zn BK358.out 1).trans rfl,(Zn BK358.out 2).trans rfl,((HB.out.cell (World.block_lt_of_cell? w _ hw363_0)).trans hw363_0),((HB.out.cell (World.block_lt_of_cell? w _ hw363_1)).trans hw363_1),((HB.out.cell (World.block_lt_of_cell? w _ hw363_2)).trans hw363_2)⟩ (fun hHeld => ?_); refine X1 Zm.tab8 Zm.bits8 (fun HT_ HW_ => ?_); generalize wc.drew = w36 at BK358 HB hx363_0 hx363_1 hx363_2 hHeld ⊢; refine pure_ (i := 0) (N := some 47) (v := ?_) (a' := ?_) #[O,G,G,G,G,G,G,G,G,G,G,G,G,G,G,G,G,G,G,G,G,G] rfl rfl (Zp HT_.out (by kernel_rfl)) (fun _ _ _ h => h) (Or.inl ⟨by rfl,?_⟩) ?_ ?_; rotate_left
                       · intro w'
                         go_simp; with_reducible rfl
                       rotate_left
                       · simp only [Act.put,YD,YE,YF,i64_w,i32_w]
                         rfl
                       refine take_ (i := 1) (N := some 48) (v := ?_) (a' := ?_) #[O,O,G,G,G,G,G,G,G,G,G,G,G,G,G,G,G,G,G,G,G,G] rfl rfl (Xe HT_.out HW_.out (by kernel_rfl)) (fun _ _ _ h => h) (Or.inl ⟨by rfl,?_⟩) hHeld ?_ ?_; rotate_left
                       · rintro w' ⟨s0,s1,s2,s3,s4,s5⟩
                         go_simp; with_reducible rfl
                       rotate_left
                       · simp only [Act.put,YD,YE,YF,i64_w,i32_w]
                         rfl
                       refine pure_ (i := 2) (N := some 49) (v := ?_) (a' := ?_) #[O,O,O,G,G,G,G,G,G,G,G,G,G,G,G,G,G,G,G,G,G,G] rfl rfl (Zp HT_.out (by kernel_rfl)) (fun _ _ _ h => h) (Or.inl ⟨by rfl,?_⟩) ?_ ?_; rotate_left
                       · intro w'
                         go_simp; with_reducible rfl
                       rotate_left
                       · simp only [Act.put,YD,YE,YF,i64_w,i32_w]
                         rfl
                       refine pure_ (i := 3) (N := some 50) (v := ?_) (a' := ?_) #[O,O,O,O,G,G,G,G,G,G,G,G,G,G,G,G,G,G,G,G,G,G] rfl rfl (Zp HT_.out (by kernel_rfl)) (fun _ _ _ h => h) (Or.inl ⟨by rfl,?_⟩) ?_ ?_; rotate_left
                       · intro w'
                         go_simp; with_reducible rfl
                       rotate_left
                       · simp only [Act.put,YD,YE,YF,i64_w,i32_w]
                         rfl
                       refine pure_ (i := 4) (N := some 51) (v := ?_) (a' := ?_) #[O,O,O,O,O,G,G,G,G,G,G,G,G,G,G,G,G,G,G,G,G,G] rfl rfl (Zp HT_.out (by kernel_rfl)) (fun _ _ _ h => h) (Or.inl ⟨by rfl,?_⟩) ?_ ?_; rotate_left
                       · intro w'
                         go_simp; with_reducible rfl
                       rotate_left
                       · simp only [Act.put,YD,YE,YF,i64_w,i32_w]
                         rfl
                       refine pure_ (i := 5) (N := some 52) (v := ?_) (a' := ?_) #[O,O,O,O,O,O,G,G,G,G,G,G,G,G,G,G,G,G,G,G,G,G] rfl rfl (Zp HT_.out (by kernel_rfl)) (fun _ _ _ h => h) (Or.inl ⟨by rfl,?_⟩) ?_ ?_; rotate_left
                       · intro w'
                         go_simp; with_reducible rfl
                       rotate_left
                       · simp only [Act.put,YD,YE,YF,i64_w,i32_w]
                         rfl
                       refine pure_ (i := 6) (N := some 53) (v := ?_) (a' := ?_) #[O,O,O,O,O,O,O,G,G,G,G,G,G,G,G,G,G,G,G,G,G,G] rfl rfl (Zp HT_.out (by kernel_rfl)) (fun _ _ _ h => h) (Or.inl ⟨by rfl,?_⟩) ?_ ?_; rotate_left
                       · intro w'
                         go_simp; with_reducible rfl
                       rotate_left
                       · simp only [Act.put,YD,YE,YF,i64_w,i32_w]
                         rfl
                       refine pure_ (i := 7) (N := some 54) (v := ?_) (a' := ?_) #[O,O,O,O,O,O,O,O,G,G,G,G,G,G,G,G,G,G,G,G,G,G] rfl rfl (Zp HT_.out (by kernel_rfl)) (fun _ _ _ h => h) (Or.inl ⟨by rfl,?_⟩) ?_ ?_; rotate_left
                       · intro w'
                         go_simp; with_reducible rfl
                       rotate_left
                       · simp only [Act.put,YD,YE,YF,i64_w,i32_w]
                         rfl
                       refine pure_ (i := 8) (N := some 55) (v := ?_) (a' := ?_) #[O,O,O,O,O,O,O,O,O,G,G,G,G,G,G,G,G,G,G,G,G,G] rfl rfl (Zp HT_.out (by kernel_rfl)) (fun _ _ _ h => h) (Or.inl ⟨by rfl,?_⟩) ?_ ?_; rotate_left
                       · intro w'
                         go_simp; with_reducible rfl
                       rotate_left
                       · simp only [Act.put,YD,YE,YF,i64_w,i32_w]
                         rfl
                       refine pure_ (i := 9) (N := some 56) (v := ?_) (a' := ?_) #[O,O,O,O,O,O,O,O,O,O,G,G,G,G,G,G,G,G,G,G,G,G] rfl rfl (Zp HT_.out (by kernel_rfl)) (fun _ _ _ h => h) (Or.inl ⟨by rfl,?_⟩) ?_ ?_; rotate_left
                       · intro w'
                         go_simp; with_reducible rfl
                       rotate_left
                       · simp only [Act.put,YD,YE,YF,i64_w,i32_w]
                         rfl
                       refine pure_ (i := 10) (N := some 57) (v := ?_) (a' := ?_) #[O,O,O,O,O,O,O,O,O,O,O,G,G,G,G,G,G,G,G,G,G,G] rfl rfl (Zp HT_.out (by kernel_rfl)) (fun _ _ _ h => h) (Or.inl ⟨by rfl,?_⟩) ?_ ?_; rotate_left
                       · intro w'
                         go_simp; with_reducible rfl
                       rotate_left
                       · simp only [Act.put,YD,YE,YF,i64_w,i32_w]
                         rfl
                       refine pure_ (i := 11) (N := some 58) (v := ?_) (a' := ?_) #[O,O,O,O,O,O,O,O,O,O,O,O,G,G,G,G,G,G,G,G,G,G] rfl rfl (Zp HT_.out (by kernel_rfl)) (fun _ _ _ h => h) (Or.inl ⟨by rfl,?_⟩) ?_ ?_; rotate_left
                       · intro w'
                         go_simp; with_reducible rfl
                       rotate_left
                       · simp only [Act.put,YD,YE,YF,i64_w,i32_w]
                         rfl
                       refine pure_ (i := 12) (N := some 59) (v := ?_) (a' := ?_) #[O,O,O,O,O,O,O,O,O,O,O,O,O,G,G,G,G,G,G,G,G,G] rfl rfl (Zp HT_.out (by kernel_rfl)) (fun _ _ _ h => h) (Or.inl ⟨by rfl,?_⟩) ?_ ?_; rotate_left
                       · intro w'
                         go_simp; with_reducible rfl
                       rotate_left
                       · simp only [Act.put,YD,YE,YF,i64_w,i32_w]
                         rfl
                       refine pure_ (i := 13) (N := some 60) (v := ?_) (a' := ?_) #[O,O,O,O,O,O,O,O,O,O,O,O,O,O,G,G,G,G,G,G,G,G] rfl rfl (Zp HT_.out (by kernel_rfl)) (fun _ _ _ h => h) (Or.inl ⟨by rfl,?_⟩) ?_ ?_; rotate_left
                       · intro w'
                         go_simp; with_reducible rfl
                       rotate_left
                       · simp only [Act.put,YD,YE,YF,i64_w,i32_w]
                         rfl
                       refine pure_ (i := 14) (N := some 61) (v := ?_) (a' := ?_) #[O,O,O,O,O,O,O,O,O,O,O,O,O,O,O,G,G,G,G,G,G,G] rfl rfl (Zp HT_.out (by kernel_rfl)) (fun _ _ _ h => h) (Or.inl ⟨by rfl,?_⟩) ?_ ?_; rotate_left
                       · intro w'
                         go_simp; with_reducible rfl
                       rotate_left
                       · simp only [Act.put,YD,YE,YF,i64_w,i32_w]
                         rfl
                       refine pure_ (i := 15) (N := some 62) (v := ?_) (a' := ?_) #[O,O,O,O,O,O,O,O,O,O,O,O,O,O,O,O,G,G,G,G,G,G] rfl rfl (Zp HT_.out (by kernel_rfl)) (fun _ _ _ h => h) (Or.inl ⟨by rfl,?_⟩) ?_ ?_; rotate_left
                       · intro w'
                         go_simp; with_reducible rfl
                       rotate_left
                       · simp only [Act.put,YD,YE,YF,i64_w,i32_w]
                         rfl
                       refine pure_ (i := 17) (N := some 64) (v := ?_) (a' := ?_) #[O,O,O,O,O,O,O,O,O,O,O,O,O,O,O,O,G,O,G,G,G,G] rfl rfl (Zp HT_.out (by kernel_rfl)) (fun _ _ _ h => h) (Or.inl ⟨by rfl,?_⟩) ?_ ?_; rotate_left
                       · intro w'
                         go_simp; with_reducible rfl
                       rotate_left
                       · simp only [Act.put,YD,YE,YF,i64_w,i32_w]
                         rfl
                       refine take_ (i := 16) (N := some 63) (v := ?_) (a' := ?_) #[O,O,O,O,O,O,O,O,O,O,O,O,O,O,O,O,O,O,G,G,G,G] rfl rfl (Xe HT_.out HW_.out (by kernel_rfl)) (fun _ _ _ h => h) (Or.inl ⟨by rfl,?_⟩) hHeld ?_ ?_; rotate_left
                       · rintro w' ⟨s0,s1,s2,s3,s4,s5⟩
                         go_simp; with_reducible rfl
                       rotate_left
                       · simp only [Act.put,YD,YE,YF,i64_w,i32_w]
                         rfl
                       refine take_ (i := 18) (N := some 65) (v := ?_) (a' := ?_) #[O,O,O,O,O,O,O,O,O,O,O,O,O,O,O,O,O,O,O,G,G,G] rfl rfl (Xe HT_.out HW_.out (by kernel_rfl)) (fun _ _ _ h => h) (Or.inl ⟨by rfl,?_⟩) hHeld ?_ ?_; rotate_left
                       · rintro w' ⟨s0,s1,s2,s3,s4,s5⟩
                         go_simp; with_reducible rfl
                       rotate_left
                       · simp only [Act.put,YD,YE,YF,i64_w,i32_w]
                         rfl
                       refine pure_ (i := 19) (N := some 66) (v := ?_) (a' := ?_) #[O,O,O,O,O,O,O,O,O,O,O,O,O,O,O,O,O,O,O,O,G,G] rfl rfl (Zp HT_.out (by kernel_rfl)) (fun _ _ _ h => h) (Or.inl ⟨by rfl,?_⟩) ?_ ?_; rotate_left
                       · intro w'
                         go_simp; with_reducible rfl
                       rotate_left
                       · simp only [Act.put,YD,YE,YF,i64_w,i32_w]
                         rfl
                       refine pure_ (i := 20) (N := some 67) (v := ?_) (a' := ?_) #[O,O,O,O,O,O,O,O,O,O,O,O,O,O,O,O,O,O,O,O,O,G] rfl rfl (Zp HT_.out (by kernel_rfl)) (fun _ _ _ h => h) (Or.inl ⟨by rfl,?_⟩) ?_ ?_; rotate_left
                       · intro w'
                         go_simp; with_reducible rfl
                       rotate_left
                       · simp only [Act.put,YD,YE,YF,i64_w,i32_w]
                         rfl
                       refine pure_ (i := 21) (N := some 68) (v := ?_) (a' := ?_) #[O,O,O,O,O,O,O,O,O,O,O,O,O,O,O,O,O,O,O,O,O,O] rfl rfl (Zp HT_.out (by kernel_rfl)) (fun _ _ _ h => h) (Or.inl ⟨by rfl,?_⟩) ?_ ?_; rotate_left
                       · intro w'
                         go_simp; with_reducible rfl
                       rotate_left
                       · simp only [Act.put,YD,YE,YF,i64_w,i32_w]
                         rfl
                       refine done_ (X7 HT_.out (by kernel_rfl)) ?_
                       try go_wp2
                       go_ret; exact ⟨by first | rfl | (simp [Zv,Zu] <;> rfl) | (simp only [← hji33]; first | rfl | (simp [Zv,Zu] <;> rfl)) | (simp [*,Zv,Zu] <;> rfl),by repeat (first | (with_reducible first | exact HB.out | apply Zd | apply Za | apply Zb | refine ZK ?_ GE358.out) | exact HB.out)⟩
                     · rw [if_neg c35] at H
                       have c35b0 : decide (1000 < (wrap64 (((Zg l0 (ji33)).f0) - ((Zg l0 x11_1).f0)))) = false := decide_eq_false c35; clear c35; have H' := Zc.mk H; clear H
                       try go_wp2
                       have n0_ := Zc.mk (Z0 BK358.out); have n1_ := Zc.mk (Zb HB.out); clear BK358; clear HB; have BK358 := n0_; have HB := n1_; clear n0_ n1_; have p363 : 0 ≤ ((ji33) : Int) := of_decide_eq_true (by first | (with_reducible assumption) | assumption); have q363 : (ji33) < (l0.length : Int) := of_decide_eq_true (by first | (with_reducible assumption) | assumption); obtain ⟨ad363,e363,hx363_0,hx363_1,hx363_2⟩ := Xx HR0.out (ji33) p363 q363; have hw363_2 := hx363_2; have hw363_1 := hx363_1; have hw363_0 := hx363_0
                       obtain rfl : ad357 = ad363 := (by injection e363)
                       replace hx363_0 := (HB.out.cell (World.block_lt_of_cell? w _ hx363_0)).trans hx363_0; replace hx363_1 := (HB.out.cell (World.block_lt_of_cell? w _ hx363_1)).trans hx363_1; replace hx363_2 := (HB.out.cell (World.block_lt_of_cell? w _ hx363_2)).trans hx363_2; replace p363 := eq_true p363; replace q363 := eq_true q363; refine XC (n := 22) (S := fun w' => w'.cell? ⟨gb358,0,none⟩ = some (.int .i64 ((Zg l0 x11_1).f0)) ∧ w'.cell? ⟨gb358,1,none⟩ = some (.int .i64 ((Zg l0 x11_1).f1)) ∧ w'.cell? ⟨gb358,2,none⟩ = some (.int .i64 ((Zg l0 x11_1).f2)) ∧ w'.cell? (ad357.add (((ji33)).toNat * 3)) = some (.int .i64 ((Zg l0 (ji33)).f0)) ∧ w'.cell? ⟨(ad357.add (((ji33)).toNat * 3)).block,(ad357.add (((ji33)).toNat * 3)).off + 1,none⟩ = some (.int .i64 ((Zg l0 (ji33)).f1)) ∧ w'.cell? ⟨(ad357.add (((ji33)).toNat * 3)).block,(ad357.add (((ji33)).toNat * 3)).off + 2,none⟩ = some (.int .i64 ((Zg l0 (ji33)).f2))) (ds := []) #[G,G,G,G,G,G,G,G,G,G,G,G,G,G,G,G,G,G,G,G,G,G] (by kernel_rfl) rfl rfl ⟨(Zn BK358.out 0).trans rfl,(Zn BK358.out 1).trans rfl,(Zn BK358.out 2).trans rfl,((HB.out.cell (World.block_lt_of_cell? w _ hw363_0)).trans hw363_0),((HB.out.cell (World.block_lt_of_cell? w _ hw363_1)).trans hw363_1),((HB.out.cell (World.block_lt_of_cell? w _ hw363_2)).trans hw363_2)⟩ (fun hHeld => ?_); refine X1 Zm.tab8 Zm.bits8 (fun HT_ HW_ => ?_); generalize wc.drew = w37 at BK358 HB hx363_0 hx363_1 hx363_2 hHeld ⊢; refine pure_ (i := 0) (N := some 47) (v := ?_) (a' := ?_) #[O,G,G,G,G,G,G,G,G,G,G,G,G,G,G,G,G,G,G,G,G,G] rfl rfl (Zp HT_.out (by kernel_rfl)) (fun _ _ _ h => h) (Or.inl ⟨by rfl,?_⟩) ?_ ?_; rotate_left
                       · intro w'
                         go_simp; with_reducible rfl
                       rotate_left
                       · simp only [Act.put,YD,YE,YF,i64_w,i32_w]
                         rfl
                       refine take_ (i := 1) (N := some 48) (v := ?_) (a' := ?_) #[O,O,G,G,G,G,G,G,G,G,G,G,G,G,G,G,G,G,G,G,G,G] rfl rfl (Xe HT_.out HW_.out (by kernel_rfl)) (fun _ _ _ h => h) (Or.inl ⟨by rfl,?_⟩) hHeld ?_ ?_; rotate_left
                       · rintro w' ⟨s0,s1,s2,s3,s4,s5⟩
                         go_simp; with_reducible rfl
                       rotate_left
                       · simp only [Act.put,YD,YE,YF,i64_w,i32_w]
                         rfl
                       refine pure_ (i := 2) (N := some 49) (v := ?_) (a' := ?_) #[O,O,O,G,G,G,G,G,G,G,G,G,G,G,G,G,G,G,G,G,G,G] rfl rfl (Zp HT_.out (by kernel_rfl)) (fun _ _ _ h => h) (Or.inl ⟨by rfl,?_⟩) ?_ ?_; rotate_left
                       · intro w'
                         go_simp; with_reducible rfl
                       rotate_left
                       · simp only [Act.put,YD,YE,YF,i64_w,i32_w]
                         rfl
                       refine pure_ (i := 3) (N := some 50) (v := ?_) (a' := ?_) #[O,O,O,O,G,G,G,G,G,G,G,G,G,G,G,G,G,G,G,G,G,G] rfl rfl (Zp HT_.out (by kernel_rfl)) (fun _ _ _ h => h) (Or.inl ⟨by rfl,?_⟩) ?_ ?_; rotate_left
                       · intro w'
                         go_simp; with_reducible rfl
                       rotate_left
                       · simp only [Act.put,YD,YE,YF,i64_w,i32_w]
                         rfl
                       refine pure_ (i := 4) (N := some 51) (v := ?_) (a' := ?_) #[O,O,O,O,O,G,G,G,G,G,G,G,G,G,G,G,G,G,G,G,G,G] rfl rfl (Zp HT_.out (by kernel_rfl)) (fun _ _ _ h => h) (Or.inl ⟨by rfl,?_⟩) ?_ ?_; rotate_left
                       · intro w'
                         go_simp; with_reducible rfl
                       rotate_left
                       · simp only [Act.put,YD,YE,YF,i64_w,i32_w]
                         rfl
                       refine pure_ (i := 5) (N := some 52) (v := ?_) (a' := ?_) #[O,O,O,O,O,O,G,G,G,G,G,G,G,G,G,G,G,G,G,G,G,G] rfl rfl (Zp HT_.out (by kernel_rfl)) (fun _ _ _ h => h) (Or.inl ⟨by rfl,?_⟩) ?_ ?_; rotate_left
                       · intro w'
                         go_simp; with_reducible rfl
                       rotate_left
                       · simp only [Act.put,YD,YE,YF,i64_w,i32_w]
                         rfl
                       refine pure_ (i := 6) (N := some 53) (v := ?_) (a' := ?_) #[O,O,O,O,O,O,O,G,G,G,G,G,G,G,G,G,G,G,G,G,G,G] rfl rfl (Zp HT_.out (by kernel_rfl)) (fun _ _ _ h => h) (Or.inl ⟨by rfl,?_⟩) ?_ ?_; rotate_left
                       · intro w'
                         go_simp; with_reducible rfl
                       rotate_left
                       · simp only [Act.put,YD,YE,YF,i64_w,i32_w]
                         rfl
                       refine pure_ (i := 7) (N := some 54) (v := ?_) (a' := ?_) #[O,O,O,O,O,O,O,O,G,G,G,G,G,G,G,G,G,G,G,G,G,G] rfl rfl (Zp HT_.out (by kernel_rfl)) (fun _ _ _ h => h) (Or.inl ⟨by rfl,?_⟩) ?_ ?_; rotate_left
                       · intro w'
                         go_simp; with_reducible rfl
                       rotate_left
                       · simp only [Act.put,YD,YE,YF,i64_w,i32_w]
                         rfl
                       refine pure_ (i := 8) (N := some 55) (v := ?_) (a' := ?_) #[O,O,O,O,O,O,O,O,O,G,G,G,G,G,G,G,G,G,G,G,G,G] rfl rfl (Zp HT_.out (by kernel_rfl)) (fun _ _ _ h => h) (Or.inl ⟨by rfl,?_⟩) ?_ ?_; rotate_left
                       · intro w'
                         go_simp; with_reducible rfl
                       rotate_left
                       · simp only [Act.put,YD,YE,YF,i64_w,i32_w]
                         rfl
                       refine pure_ (i := 9) (N := some 56) (v := ?_) (a' := ?_) #[O,O,O,O,O,O,O,O,O,O,G,G,G,G,G,G,G,G,G,G,G,G] rfl rfl (Zp HT_.out (by kernel_rfl)) (fun _ _ _ h => h) (Or.inl ⟨by rfl,?_⟩) ?_ ?_; rotate_left
                       · intro w'
                         go_simp; with_reducible rfl
                       rotate_left
                       · simp only [Act.put,YD,YE,YF,i64_w,i32_w]
                         rfl
                       refine pure_ (i := 10) (N := some 57) (v := ?_) (a' := ?_) #[O,O,O,O,O,O,O,O,O,O,O,G,G,G,G,G,G,G,G,G,G,G] rfl rfl (Zp HT_.out (by kernel_rfl)) (fun _ _ _ h => h) (Or.inl ⟨by rfl,?_⟩) ?_ ?_; rotate_left
                       · intro w'
                         go_simp; with_reducible rfl
                       rotate_left
                       · simp only [Act.put,YD,YE,YF,i64_w,i32_w]
                         rfl
                       refine pure_ (i := 11) (N := some 58) (v := ?_) (a' := ?_) #[O,O,O,O,O,O,O,O,O,O,O,O,G,G,G,G,G,G,G,G,G,G] rfl rfl (Zp HT_.out (by kernel_rfl)) (fun _ _ _ h => h) (Or.inl ⟨by rfl,?_⟩) ?_ ?_; rotate_left
                       · intro w'
                         go_simp; with_reducible rfl
                       rotate_left
                       · simp only [Act.put,YD,YE,YF,i64_w,i32_w]
                         rfl
                       refine pure_ (i := 12) (N := some 59) (v := ?_) (a' := ?_) #[O,O,O,O,O,O,O,O,O,O,O,O,O,G,G,G,G,G,G,G,G,G] rfl rfl (Zp HT_.out (by kernel_rfl)) (fun _ _ _ h => h) (Or.inl ⟨by rfl,?_⟩) ?_ ?_; rotate_left
                       · intro w'
                         go_simp; with_reducible rfl
                       rotate_left
                       · simp only [Act.put,YD,YE,YF,i64_w,i32_w]
                         rfl
                       refine pure_ (i := 13) (N := some 60) (v := ?_) (a' := ?_) #[O,O,O,O,O,O,O,O,O,O,O,O,O,O,G,G,G,G,G,G,G,G] rfl rfl (Zp HT_.out (by kernel_rfl)) (fun _ _ _ h => h) (Or.inl ⟨by rfl,?_⟩) ?_ ?_; rotate_left
                       · intro w'
                         go_simp; with_reducible rfl
                       rotate_left
                       · simp only [Act.put,YD,YE,YF,i64_w,i32_w]
                         rfl
                       refine pure_ (i := 14) (N := some 61) (v := ?_) (a' := ?_) #[O,O,O,O,O,O,O,O,O,O,O,O,O,O,O,G,G,G,G,G,G,G] rfl rfl (Zp HT_.out (by kernel_rfl)) (fun _ _ _ h => h) (Or.inl ⟨by rfl,?_⟩) ?_ ?_; rotate_left
                       · intro w'
                         go_simp; with_reducible rfl
                       rotate_left
                       · simp only [Act.put,YD,YE,YF,i64_w,i32_w]
                         rfl
                       refine pure_ (i := 15) (N := some 62) (v := ?_) (a' := ?_) #[O,O,O,O,O,O,O,O,O,O,O,O,O,O,O,O,G,G,G,G,G,G] rfl rfl (Zp HT_.out (by kernel_rfl)) (fun _ _ _ h => h) (Or.inl ⟨by rfl,?_⟩) ?_ ?_; rotate_left
                       · intro w'
                         go_simp; with_reducible rfl
                       rotate_left
                       · simp only [Act.put,YD,YE,YF,i64_w,i32_w]
                         rfl
                       refine pure_ (i := 17) (N := some 64) (v := ?_) (a' := ?_) #[O,O,O,O,O,O,O,O,O,O,O,O,O,O,O,O,G,O,G,G,G,G] rfl rfl (Zp HT_.out (by kernel_rfl)) (fun _ _ _ h => h) (Or.inl ⟨by rfl,?_⟩) ?_ ?_; rotate_left
                       · intro w'
                         go_simp; with_reducible rfl
                       rotate_left
                       · simp only [Act.put,YD,YE,YF,i64_w,i32_w]
                         rfl
                       refine take_ (i := 16) (N := some 63) (v := ?_) (a' := ?_) #[O,O,O,O,O,O,O,O,O,O,O,O,O,O,O,O,O,O,G,G,G,G] rfl rfl (Xe HT_.out HW_.out (by kernel_rfl)) (fun _ _ _ h => h) (Or.inl ⟨by rfl,?_⟩) hHeld ?_ ?_; rotate_left
                       · rintro w' ⟨s0,s1,s2,s3,s4,s5⟩
                         go_simp; with_reducible rfl
                       rotate_left
                       · simp only [Act.put,YD,YE,YF,i64_w,i32_w]
                         rfl
                       refine take_ (i := 18) (N := some 65) (v := ?_) (a' := ?_) #[O,O,O,O,O,O,O,O,O,O,O,O,O,O,O,O,O,O,O,G,G,G] rfl rfl (Xe HT_.out HW_.out (by kernel_rfl)) (fun _ _ _ h => h) (Or.inl ⟨by rfl,?_⟩) hHeld ?_ ?_; rotate_left
                       · rintro w' ⟨s0,s1,s2,s3,s4,s5⟩
                         go_simp; with_reducible rfl
                       rotate_left
                       · simp only [Act.put,YD,YE,YF,i64_w,i32_w]
                         rfl
                       refine pure_ (i := 19) (N := some 66) (v := ?_) (a' := ?_) #[O,O,O,O,O,O,O,O,O,O,O,O,O,O,O,O,O,O,O,O,G,G] rfl rfl (Zp HT_.out (by kernel_rfl)) (fun _ _ _ h => h) (Or.inl ⟨by rfl,?_⟩) ?_ ?_; rotate_left
                       · intro w'
                         go_simp; with_reducible rfl
                       rotate_left
                       · simp only [Act.put,YD,YE,YF,i64_w,i32_w]
                         rfl
                       refine pure_ (i := 20) (N := some 67) (v := ?_) (a' := ?_) #[O,O,O,O,O,O,O,O,O,O,O,O,O,O,O,O,O,O,O,O,O,G] rfl rfl (Zp HT_.out (by kernel_rfl)) (fun _ _ _ h => h) (Or.inl ⟨by rfl,?_⟩) ?_ ?_; rotate_left
                       · intro w'
                         go_simp; with_reducible rfl
                       rotate_left
                       · simp only [Act.put,YD,YE,YF,i64_w,i32_w]
                         rfl
                       refine pure_ (i := 21) (N := some 68) (v := ?_) (a' := ?_) #[O,O,O,O,O,O,O,O,O,O,O,O,O,O,O,O,O,O,O,O,O,O] rfl rfl (Zp HT_.out (by kernel_rfl)) (fun _ _ _ h => h) (Or.inl ⟨by rfl,?_⟩) ?_ ?_; rotate_left
                       · intro w'
                         go_simp; with_reducible rfl
                       rotate_left
                       · simp only [Act.put,YD,YE,YF,i64_w,i32_w]
                         rfl
                       refine done_ (X7 HT_.out (by kernel_rfl)) ?_
                       try go_wp2
                       go_roundg kj6
                       case measure => have := HK1.out; have := HJ6.out; omega
                       case rel => exact ⟨(ji33),(by first | rfl | (simp; done) | (simp only [← hji33] <;> (first | rfl | simp)) | (simp [*]; done)),H',⟨by have := HK1.out; have := HJ6.out; omega⟩,⟨by repeat (first | (with_reducible first | exact HB.out | apply Zd | apply Za | apply Zb | refine ZK ?_ GE358.out) | exact HB.out)⟩⟩
                   · rw [if_neg c34] at H
                     exact absurd H (by simp)
                 · rw [if_neg c32] at H
                   have c32b0 : decide ((wrap64 (x11_1 + 1)) < (l0.length : Int)) = false := decide_eq_false c32; clear c32; have H' := Zc.mk H; clear H
                   try go_wp2
                   have n0_ := Zc.mk (Z0 BK358.out); have n1_ := Zc.mk (Zb HB.out); clear BK358; clear HB; have BK358 := n0_; have HB := n1_; clear n0_ n1_; refine XC (n := 22) (S := fun w' => w'.cell? ⟨gb358,0,none⟩ = some (.int .i64 ((Zg l0 x11_1).f0)) ∧ w'.cell? ⟨gb358,1,none⟩ = some (.int .i64 ((Zg l0 x11_1).f1)) ∧ w'.cell? ⟨gb358,2,none⟩ = some (.int .i64 ((Zg l0 x11_1).f2))) (ds := []) #[G,G,G,G,G,G,G,G,G,G,G,G,G,G,G,G,G,G,G,G,G,G] (by kernel_rfl) rfl rfl ⟨(Zn BK358.out 0).trans rfl,(Zn BK358.out 1).trans rfl,(Zn BK358.out 2).trans rfl⟩ (fun hHeld => ?_); refine X1 Zm.tab8 Zm.bits8 (fun HT_ HW_ => ?_); generalize wc.drew = w38 at BK358 HB hHeld ⊢; refine pure_ (i := 0) (N := some 47) (v := ?_) (a' := ?_) #[O,G,G,G,G,G,G,G,G,G,G,G,G,G,G,G,G,G,G,G,G,G] rfl rfl (Zp HT_.out (by kernel_rfl)) (fun _ _ _ h => h) (Or.inl ⟨by rfl,?_⟩) ?_ ?_; rotate_left
                   · intro w'
                     go_simp; with_reducible rfl
                   rotate_left
                   · simp only [Act.put,YD,YE,YF,i64_w,i32_w]
                     rfl
                   refine take_ (i := 1) (N := some 48) (v := ?_) (a' := ?_) #[O,O,G,G,G,G,G,G,G,G,G,G,G,G,G,G,G,G,G,G,G,G] rfl rfl (Xe HT_.out HW_.out (by kernel_rfl)) (fun _ _ _ h => h) (Or.inl ⟨by rfl,?_⟩) hHeld ?_ ?_; rotate_left
                   · rintro w' ⟨s0,s1,s2⟩
                     go_simp; with_reducible rfl
                   rotate_left
                   · simp only [Act.put,YD,YE,YF,i64_w,i32_w]
                     rfl
                   refine pure_ (i := 2) (N := some 49) (v := ?_) (a' := ?_) #[O,O,O,G,G,G,G,G,G,G,G,G,G,G,G,G,G,G,G,G,G,G] rfl rfl (Zp HT_.out (by kernel_rfl)) (fun _ _ _ h => h) (Or.inl ⟨by rfl,?_⟩) ?_ ?_; rotate_left
                   · intro w'
                     go_simp; with_reducible rfl
                   rotate_left
                   · simp only [Act.put,YD,YE,YF,i64_w,i32_w]
                     rfl
                   refine pure_ (i := 3) (N := some 50) (v := ?_) (a' := ?_) #[O,O,O,O,G,G,G,G,G,G,G,G,G,G,G,G,G,G,G,G,G,G] rfl rfl (Zp HT_.out (by kernel_rfl)) (fun _ _ _ h => h) (Or.inl ⟨by rfl,?_⟩) ?_ ?_; rotate_left
                   · intro w'
                     go_simp; with_reducible rfl
                   rotate_left
                   · simp only [Act.put,YD,YE,YF,i64_w,i32_w]
                     rfl
                   refine pure_ (i := 4) (N := some 51) (v := ?_) (a' := ?_) #[O,O,O,O,O,G,G,G,G,G,G,G,G,G,G,G,G,G,G,G,G,G] rfl rfl (Zp HT_.out (by kernel_rfl)) (fun _ _ _ h => h) (Or.inl ⟨by rfl,?_⟩) ?_ ?_; rotate_left
                   · intro w'
                     go_simp; with_reducible rfl
                   rotate_left
                   · simp only [Act.put,YD,YE,YF,i64_w,i32_w]
                     rfl
                   refine pure_ (i := 5) (N := some 52) (v := ?_) (a' := ?_) #[O,O,O,O,O,O,G,G,G,G,G,G,G,G,G,G,G,G,G,G,G,G] rfl rfl (Zp HT_.out (by kernel_rfl)) (fun _ _ _ h => h) (Or.inl ⟨by rfl,?_⟩) ?_ ?_; rotate_left
                   · intro w'
                     go_simp; with_reducible rfl
                   rotate_left
                   · simp only [Act.put,YD,YE,YF,i64_w,i32_w]
                     rfl
                   refine pure_ (i := 6) (N := some 53) (v := ?_) (a' := ?_) #[O,O,O,O,O,O,O,G,G,G,G,G,G,G,G,G,G,G,G,G,G,G] rfl rfl (Zp HT_.out (by kernel_rfl)) (fun _ _ _ h => h) (Or.inl ⟨by rfl,?_⟩) ?_ ?_; rotate_left
                   · intro w'
                     go_simp; with_reducible rfl
                   rotate_left
                   · simp only [Act.put,YD,YE,YF,i64_w,i32_w]
                     rfl
                   refine pure_ (i := 7) (N := some 54) (v := ?_) (a' := ?_) #[O,O,O,O,O,O,O,O,G,G,G,G,G,G,G,G,G,G,G,G,G,G] rfl rfl (Zp HT_.out (by kernel_rfl)) (fun _ _ _ h => h) (Or.inl ⟨by rfl,?_⟩) ?_ ?_; rotate_left
                   · intro w'
                     go_simp; with_reducible rfl
                   rotate_left
                   · simp only [Act.put,YD,YE,YF,i64_w,i32_w]
                     rfl
                   refine pure_ (i := 8) (N := some 55) (v := ?_) (a' := ?_) #[O,O,O,O,O,O,O,O,O,G,G,G,G,G,G,G,G,G,G,G,G,G] rfl rfl (Zp HT_.out (by kernel_rfl)) (fun _ _ _ h => h) (Or.inl ⟨by rfl,?_⟩) ?_ ?_; rotate_left
                   · intro w'
                     go_simp; with_reducible rfl
                   rotate_left
                   · simp only [Act.put,YD,YE,YF,i64_w,i32_w]
                     rfl
                   refine pure_ (i := 9) (N := some 56) (v := ?_) (a' := ?_) #[O,O,O,O,O,O,O,O,O,O,G,G,G,G,G,G,G,G,G,G,G,G] rfl rfl (Zp HT_.out (by kernel_rfl)) (fun _ _ _ h => h) (Or.inl ⟨by rfl,?_⟩) ?_ ?_; rotate_left
                   · intro w'
                     go_simp; with_reducible rfl
                   rotate_left
                   · simp only [Act.put,YD,YE,YF,i64_w,i32_w]
                     rfl
                   refine pure_ (i := 10) (N := some 57) (v := ?_) (a' := ?_) #[O,O,O,O,O,O,O,O,O,O,O,G,G,G,G,G,G,G,G,G,G,G] rfl rfl (Zp HT_.out (by kernel_rfl)) (fun _ _ _ h => h) (Or.inl ⟨by rfl,?_⟩) ?_ ?_; rotate_left
                   · intro w'
                     go_simp; with_reducible rfl
                   rotate_left
                   · simp only [Act.put,YD,YE,YF,i64_w,i32_w]
                     rfl
                   refine pure_ (i := 11) (N := some 58) (v := undef) (a' := ?_) #[O,O,O,O,O,O,O,O,O,O,O,O,G,G,G,G,G,G,G,G,G,G] rfl rfl (Zp HT_.out (by kernel_rfl)) (fun _ _ _ h => h) (Or.inr ⟨by rfl,rfl⟩) ?_ ?_; rotate_left
                   · simp only [Act.put,YD,YE,YF,i64_w,i32_w]
                     rfl
                   refine pure_ (i := 12) (N := some 59) (v := undef) (a' := ?_) #[O,O,O,O,O,O,O,O,O,O,O,O,O,G,G,G,G,G,G,G,G,G] rfl rfl (Zp HT_.out (by kernel_rfl)) (fun _ _ _ h => h) (Or.inr ⟨by rfl,rfl⟩) ?_ ?_; rotate_left
                   · simp only [Act.put,YD,YE,YF,i64_w,i32_w]
                     rfl
                   refine pure_ (i := 13) (N := some 60) (v := undef) (a' := ?_) #[O,O,O,O,O,O,O,O,O,O,O,O,O,O,G,G,G,G,G,G,G,G] rfl rfl (Zp HT_.out (by kernel_rfl)) (fun _ _ _ h => h) (Or.inr ⟨by rfl,rfl⟩) ?_ ?_; rotate_left
                   · simp only [Act.put,YD,YE,YF,i64_w,i32_w]
                     rfl
                   refine pure_ (i := 14) (N := some 61) (v := undef) (a' := ?_) #[O,O,O,O,O,O,O,O,O,O,O,O,O,O,O,G,G,G,G,G,G,G] rfl rfl (Zp HT_.out (by kernel_rfl)) (fun _ _ _ h => h) (Or.inr ⟨by rfl,rfl⟩) ?_ ?_; rotate_left
                   · simp only [Act.put,YD,YE,YF,i64_w,i32_w]
                     rfl
                   refine pure_ (i := 15) (N := some 62) (v := undef) (a' := ?_) #[O,O,O,O,O,O,O,O,O,O,O,O,O,O,O,O,G,G,G,G,G,G] rfl rfl (Zp HT_.out (by kernel_rfl)) (fun _ _ _ h => h) (Or.inr ⟨by rfl,rfl⟩) ?_ ?_; rotate_left
                   · simp only [Act.put,YD,YE,YF,i64_w,i32_w]
                     rfl
                   refine pure_ (i := 16) (N := some 63) (v := undef) (a' := ?_) #[O,O,O,O,O,O,O,O,O,O,O,O,O,O,O,O,O,G,G,G,G,G] rfl rfl (Zp HT_.out (by kernel_rfl)) (fun _ _ _ h => h) (Or.inr ⟨by rfl,rfl⟩) ?_ ?_; rotate_left
                   · simp only [Act.put,YD,YE,YF,i64_w,i32_w]
                     rfl
                   refine pure_ (i := 17) (N := some 64) (v := undef) (a' := ?_) #[O,O,O,O,O,O,O,O,O,O,O,O,O,O,O,O,O,O,G,G,G,G] rfl rfl (Zp HT_.out (by kernel_rfl)) (fun _ _ _ h => h) (Or.inr ⟨by rfl,rfl⟩) ?_ ?_; rotate_left
                   · simp only [Act.put,YD,YE,YF,i64_w,i32_w]
                     rfl
                   refine pure_ (i := 18) (N := some 65) (v := undef) (a' := ?_) #[O,O,O,O,O,O,O,O,O,O,O,O,O,O,O,O,O,O,O,G,G,G] rfl rfl (Zp HT_.out (by kernel_rfl)) (fun _ _ _ h => h) (Or.inr ⟨by rfl,rfl⟩) ?_ ?_; rotate_left
                   · simp only [Act.put,YD,YE,YF,i64_w,i32_w]
                     rfl
                   refine pure_ (i := 19) (N := some 66) (v := undef) (a' := ?_) #[O,O,O,O,O,O,O,O,O,O,O,O,O,O,O,O,O,O,O,O,G,G] rfl rfl (Zp HT_.out (by kernel_rfl)) (fun _ _ _ h => h) (Or.inr ⟨by rfl,rfl⟩) ?_ ?_; rotate_left
                   · simp only [Act.put,YD,YE,YF,i64_w,i32_w]
                     rfl
                   refine pure_ (i := 20) (N := some 67) (v := undef) (a' := ?_) #[O,O,O,O,O,O,O,O,O,O,O,O,O,O,O,O,O,O,O,O,O,G] rfl rfl (Zp HT_.out (by kernel_rfl)) (fun _ _ _ h => h) (Or.inr ⟨by rfl,rfl⟩) ?_ ?_; rotate_left
                   · simp only [Act.put,YD,YE,YF,i64_w,i32_w]
                     rfl
                   refine pure_ (i := 21) (N := some 68) (v := ?_) (a' := ?_) #[O,O,O,O,O,O,O,O,O,O,O,O,O,O,O,O,O,O,O,O,O,O] rfl rfl (Zp HT_.out (by kernel_rfl)) (fun _ _ _ h => h) (Or.inl ⟨by rfl,?_⟩) ?_ ?_; rotate_left
                   · intro w'
                     go_simp; with_reducible rfl
                   rotate_left
                   · simp only [Act.put,YD,YE,YF,i64_w,i32_w]
                     rfl
                   refine done_ (X7 HT_.out (by kernel_rfl)) ?_
                   try go_wp2
                   go_roundg kj6
                   case measure => have := HK1.out; have := HJ6.out; omega
                   case rel => exact ⟨(wrap64 (x11_1 + 1)),(by first | rfl | (simp; done) | (simp [*]; done)),H',⟨by have := HK1.out; have := HJ6.out; omega⟩,⟨by repeat (first | (with_reducible first | exact HB.out | apply Zd | apply Za | apply Zb | refine ZK ?_ GE358.out) | exact HB.out)⟩⟩
               · rw [if_neg c31] at H
                 have c31b0 : (((Zg l0 x11_1).f2) == 2) = false := beq_eq_false_iff_ne.mpr c31; have c31b1 : (((Zg l0 x11_1).f2) != 2) = true := bne_iff_ne.mpr c31; have H' := Zc.mk H; clear H
                 try go_wp2
                 have n0_ := Zc.mk (Z0 BK358.out); have n1_ := Zc.mk (Zb HB.out); clear BK358; clear HB; have BK358 := n0_; have HB := n1_; clear n0_ n1_; refine XC (n := 22) (S := fun w' => w'.cell? ⟨gb358,0,none⟩ = some (.int .i64 ((Zg l0 x11_1).f0)) ∧ w'.cell? ⟨gb358,1,none⟩ = some (.int .i64 ((Zg l0 x11_1).f1)) ∧ w'.cell? ⟨gb358,2,none⟩ = some (.int .i64 ((Zg l0 x11_1).f2))) (ds := []) #[G,G,G,G,G,G,G,G,G,G,G,G,G,G,G,G,G,G,G,G,G,G] (by kernel_rfl) rfl rfl ⟨(Zn BK358.out 0).trans rfl,(Zn BK358.out 1).trans rfl,(Zn BK358.out 2).trans rfl⟩ (fun hHeld => ?_); refine X1 Zm.tab8 Zm.bits8 (fun HT_ HW_ => ?_); generalize wc.drew = w39 at BK358 HB hHeld ⊢; refine pure_ (i := 0) (N := some 47) (v := ?_) (a' := ?_) #[O,G,G,G,G,G,G,G,G,G,G,G,G,G,G,G,G,G,G,G,G,G] rfl rfl (Zp HT_.out (by kernel_rfl)) (fun _ _ _ h => h) (Or.inl ⟨by rfl,?_⟩) ?_ ?_; rotate_left
                 · intro w'
                   go_simp; with_reducible rfl
                 rotate_left
                 · simp only [Act.put,YD,YE,YF,i64_w,i32_w]
                   rfl
                 refine take_ (i := 1) (N := some 48) (v := ?_) (a' := ?_) #[O,O,G,G,G,G,G,G,G,G,G,G,G,G,G,G,G,G,G,G,G,G] rfl rfl (Xe HT_.out HW_.out (by kernel_rfl)) (fun _ _ _ h => h) (Or.inl ⟨by rfl,?_⟩) hHeld ?_ ?_; rotate_left
                 · rintro w' ⟨s0,s1,s2⟩
                   go_simp; with_reducible rfl
                 rotate_left
                 · simp only [Act.put,YD,YE,YF,i64_w,i32_w]
                   rfl
                 refine pure_ (i := 2) (N := some 49) (v := ?_) (a' := ?_) #[O,O,O,G,G,G,G,G,G,G,G,G,G,G,G,G,G,G,G,G,G,G] rfl rfl (Zp HT_.out (by kernel_rfl)) (fun _ _ _ h => h) (Or.inl ⟨by rfl,?_⟩) ?_ ?_; rotate_left
                 · intro w'
                   go_simp; with_reducible rfl
                 rotate_left
                 · simp only [Act.put,YD,YE,YF,i64_w,i32_w]
                   rfl
                 refine pure_ (i := 3) (N := some 50) (v := ?_) (a' := ?_) #[O,O,O,O,G,G,G,G,G,G,G,G,G,G,G,G,G,G,G,G,G,G] rfl rfl (Zp HT_.out (by kernel_rfl)) (fun _ _ _ h => h) (Or.inl ⟨by rfl,?_⟩) ?_ ?_; rotate_left
                 · intro w'
                   go_simp; with_reducible rfl
                 rotate_left
                 · simp only [Act.put,YD,YE,YF,i64_w,i32_w]
                   rfl
                 refine pure_ (i := 4) (N := some 51) (v := undef) (a' := ?_) #[O,O,O,O,O,G,G,G,G,G,G,G,G,G,G,G,G,G,G,G,G,G] rfl rfl (Zp HT_.out (by kernel_rfl)) (fun _ _ _ h => h) (Or.inr ⟨by rfl,rfl⟩) ?_ ?_; rotate_left
                 · simp only [Act.put,YD,YE,YF,i64_w,i32_w]
                   rfl
                 refine pure_ (i := 5) (N := some 52) (v := undef) (a' := ?_) #[O,O,O,O,O,O,G,G,G,G,G,G,G,G,G,G,G,G,G,G,G,G] rfl rfl (Zp HT_.out (by kernel_rfl)) (fun _ _ _ h => h) (Or.inr ⟨by rfl,rfl⟩) ?_ ?_; rotate_left
                 · simp only [Act.put,YD,YE,YF,i64_w,i32_w]
                   rfl
                 refine pure_ (i := 6) (N := some 53) (v := undef) (a' := ?_) #[O,O,O,O,O,O,O,G,G,G,G,G,G,G,G,G,G,G,G,G,G,G] rfl rfl (Zp HT_.out (by kernel_rfl)) (fun _ _ _ h => h) (Or.inr ⟨by rfl,rfl⟩) ?_ ?_; rotate_left
                 · simp only [Act.put,YD,YE,YF,i64_w,i32_w]
                   rfl
                 refine pure_ (i := 7) (N := some 54) (v := undef) (a' := ?_) #[O,O,O,O,O,O,O,O,G,G,G,G,G,G,G,G,G,G,G,G,G,G] rfl rfl (Zp HT_.out (by kernel_rfl)) (fun _ _ _ h => h) (Or.inr ⟨by rfl,rfl⟩) ?_ ?_; rotate_left
                 · simp only [Act.put,YD,YE,YF,i64_w,i32_w]
                   rfl
                 refine pure_ (i := 8) (N := some 55) (v := undef) (a' := ?_) #[O,O,O,O,O,O,O,O,O,G,G,G,G,G,G,G,G,G,G,G,G,G] rfl rfl (Zp HT_.out (by kernel_rfl)) (fun _ _ _ h => h) (Or.inr ⟨by rfl,rfl⟩) ?_ ?_; rotate_left
                 · simp only [Act.put,YD,YE,YF,i64_w,i32_w]
                   rfl
                 refine pure_ (i := 9) (N := some 56) (v := ?_) (a' := ?_) #[O,O,O,O,O,O,O,O,O,O,G,G,G,G,G,G,G,G,G,G,G,G] rfl rfl (Zp HT_.out (by kernel_rfl)) (fun _ _ _ h => h) (Or.inl ⟨by rfl,?_⟩) ?_ ?_; rotate_left
                 · intro w'
                   go_simp; with_reducible rfl
                 rotate_left
                 · simp only [Act.put,YD,YE,YF,i64_w,i32_w]
                   rfl
                 refine pure_ (i := 10) (N := some 57) (v := ?_) (a' := ?_) #[O,O,O,O,O,O,O,O,O,O,O,G,G,G,G,G,G,G,G,G,G,G] rfl rfl (Zp HT_.out (by kernel_rfl)) (fun _ _ _ h => h) (Or.inl ⟨by rfl,?_⟩) ?_ ?_; rotate_left
                 · intro w'
                   go_simp; with_reducible rfl
                 rotate_left
                 · simp only [Act.put,YD,YE,YF,i64_w,i32_w]
                   rfl
                 refine pure_ (i := 11) (N := some 58) (v := undef) (a' := ?_) #[O,O,O,O,O,O,O,O,O,O,O,O,G,G,G,G,G,G,G,G,G,G] rfl rfl (Zp HT_.out (by kernel_rfl)) (fun _ _ _ h => h) (Or.inr ⟨by rfl,rfl⟩) ?_ ?_; rotate_left
                 · simp only [Act.put,YD,YE,YF,i64_w,i32_w]
                   rfl
                 refine pure_ (i := 12) (N := some 59) (v := undef) (a' := ?_) #[O,O,O,O,O,O,O,O,O,O,O,O,O,G,G,G,G,G,G,G,G,G] rfl rfl (Zp HT_.out (by kernel_rfl)) (fun _ _ _ h => h) (Or.inr ⟨by rfl,rfl⟩) ?_ ?_; rotate_left
                 · simp only [Act.put,YD,YE,YF,i64_w,i32_w]
                   rfl
                 refine pure_ (i := 13) (N := some 60) (v := undef) (a' := ?_) #[O,O,O,O,O,O,O,O,O,O,O,O,O,O,G,G,G,G,G,G,G,G] rfl rfl (Zp HT_.out (by kernel_rfl)) (fun _ _ _ h => h) (Or.inr ⟨by rfl,rfl⟩) ?_ ?_; rotate_left
                 · simp only [Act.put,YD,YE,YF,i64_w,i32_w]
                   rfl
                 refine pure_ (i := 14) (N := some 61) (v := undef) (a' := ?_) #[O,O,O,O,O,O,O,O,O,O,O,O,O,O,O,G,G,G,G,G,G,G] rfl rfl (Zp HT_.out (by kernel_rfl)) (fun _ _ _ h => h) (Or.inr ⟨by rfl,rfl⟩) ?_ ?_; rotate_left
                 · simp only [Act.put,YD,YE,YF,i64_w,i32_w]
                   rfl
                 refine pure_ (i := 15) (N := some 62) (v := undef) (a' := ?_) #[O,O,O,O,O,O,O,O,O,O,O,O,O,O,O,O,G,G,G,G,G,G] rfl rfl (Zp HT_.out (by kernel_rfl)) (fun _ _ _ h => h) (Or.inr ⟨by rfl,rfl⟩) ?_ ?_; rotate_left
                 · simp only [Act.put,YD,YE,YF,i64_w,i32_w]
                   rfl
                 refine pure_ (i := 16) (N := some 63) (v := undef) (a' := ?_) #[O,O,O,O,O,O,O,O,O,O,O,O,O,O,O,O,O,G,G,G,G,G] rfl rfl (Zp HT_.out (by kernel_rfl)) (fun _ _ _ h => h) (Or.inr ⟨by rfl,rfl⟩) ?_ ?_; rotate_left
                 · simp only [Act.put,YD,YE,YF,i64_w,i32_w]
                   rfl
                 refine pure_ (i := 17) (N := some 64) (v := undef) (a' := ?_) #[O,O,O,O,O,O,O,O,O,O,O,O,O,O,O,O,O,O,G,G,G,G] rfl rfl (Zp HT_.out (by kernel_rfl)) (fun _ _ _ h => h) (Or.inr ⟨by rfl,rfl⟩) ?_ ?_; rotate_left
                 · simp only [Act.put,YD,YE,YF,i64_w,i32_w]
                   rfl
                 refine pure_ (i := 18) (N := some 65) (v := undef) (a' := ?_) #[O,O,O,O,O,O,O,O,O,O,O,O,O,O,O,O,O,O,O,G,G,G] rfl rfl (Zp HT_.out (by kernel_rfl)) (fun _ _ _ h => h) (Or.inr ⟨by rfl,rfl⟩) ?_ ?_; rotate_left
                 · simp only [Act.put,YD,YE,YF,i64_w,i32_w]
                   rfl
                 refine pure_ (i := 19) (N := some 66) (v := undef) (a' := ?_) #[O,O,O,O,O,O,O,O,O,O,O,O,O,O,O,O,O,O,O,O,G,G] rfl rfl (Zp HT_.out (by kernel_rfl)) (fun _ _ _ h => h) (Or.inr ⟨by rfl,rfl⟩) ?_ ?_; rotate_left
                 · simp only [Act.put,YD,YE,YF,i64_w,i32_w]
                   rfl
                 refine pure_ (i := 20) (N := some 67) (v := undef) (a' := ?_) #[O,O,O,O,O,O,O,O,O,O,O,O,O,O,O,O,O,O,O,O,O,G] rfl rfl (Zp HT_.out (by kernel_rfl)) (fun _ _ _ h => h) (Or.inr ⟨by rfl,rfl⟩) ?_ ?_; rotate_left
                 · simp only [Act.put,YD,YE,YF,i64_w,i32_w]
                   rfl
                 refine pure_ (i := 21) (N := some 68) (v := ?_) (a' := ?_) #[O,O,O,O,O,O,O,O,O,O,O,O,O,O,O,O,O,O,O,O,O,O] rfl rfl (Zp HT_.out (by kernel_rfl)) (fun _ _ _ h => h) (Or.inl ⟨by rfl,?_⟩) ?_ ?_; rotate_left
                 · intro w'
                   go_simp; with_reducible rfl
                 rotate_left
                 · simp only [Act.put,YD,YE,YF,i64_w,i32_w]
                   rfl
                 refine done_ (X7 HT_.out (by kernel_rfl)) ?_
                 try go_wp2
                 go_roundg kj6
                 case measure => have := HK1.out; have := HJ6.out; omega
                 case rel => exact ⟨(wrap64 (x11_1 + 1)),(by first | rfl | (simp; done) | (simp [*]; done)),H',⟨by have := HK1.out; have := HJ6.out; omega⟩,⟨by repeat (first | (with_reducible first | exact HB.out | apply Zd | apply Za | apply Zb | refine ZK ?_ GE358.out) | exact HB.out)⟩⟩
         · rw [if_neg c6] at H
           exact absurd H (by simp)
       · rw [if_neg c5] at H
         exact absurd H (by simp)
     · rw [if_neg c4] at H
       have c4b0 : decide (x11_1 < (l0.length : Int)) = false := decide_eq_false c4; clear c4; obtain rfl := Option.some.inj H
       go_wp2
       go_ret; exact ⟨by first | rfl | (simp [Zv,Zu] <;> rfl) | (simp [*,Zv,Zu] <;> rfl),by repeat (first | (with_reducible first | exact HB.out | apply Zd | apply Za | apply Zb) | exact HB.out)⟩
 · replace c3 := Bool.eq_false_iff.mpr c3
   subst c3
   have H1 : (some false) = some r := by rw [if_neg (show ¬ (false = true) by decide)] at H; exact H
   clear H; have H := H1; clear H1; obtain rfl := Option.some.inj H
   go_enter Try.func36,Try.ntmps36
   go_wp2_with (first | ((with_reducible refine Z1 (f := 43) rfl ?_); refine ZQ (some 7) rfl rfl Try.func43 (by kernel_rfl) rfl #[.int .i64 (l0.length : Int),.int .i64 1,.int .i64 100] rfl (by (try simp only [List.map_toArray,List.map_cons,List.map_nil]); first | done | rfl | (simp only [List.length_drop,List.length_take]; rfl)) ?_; (with_reducible refine (Z6.calls (l0.length : Int) 1 100 false _ A2.out).mono ?_); rintro e w' ⟨rfl,⟨nd,rfl⟩⟩; refine ⟨_,rfl,?_⟩))
   go_ret; exact ⟨by first | rfl | (simp [Zv,Zu] <;> rfl) | (simp [*,Zv,Zu] <;> rfl),by repeat (first | (with_reducible first | exact HB.out | apply Zd | apply Za | apply Zb) | exact HB.out)⟩
end Go.Proofs.Ytomlfbmfdoallaa.PA

namespace Go.Proofs.Ytomlfbmfdoallaa.PA
open Go.RowKit Go.Proofs.YtomlfbmfdoallaaW.PrintWords Go.Proofs.YtomlfbmfdoallaaW.PrintLast Go.Proofs.YtomlfbmfdoallaaW.PrintMore
set_option linter.unusedVariables false
set_option linter.unusedSimpArgs false
def shp (s n d L : Int) : Int := if s = 0 then 0 else if s = 1 then rnd (n * d) L else rnd (n * (3 * d * d * L - 2 * d * d * d)) (L * L * L)
theorem shapes1_calls (n d L : Int) (w : World) : Calls Try.prog 80 #[.int .i64 n,.int .i64 d,.int .i64 L] w fun e w' => e = .returned (.int .i64 0) ∧ Below w.heap.size w w' := by
 go_enter Try.func80,Try.ntmps80
 go_wp2
 go_ret; exact ⟨rfl,Below.refl _ _⟩
set_option maxRecDepth 100000 in
theorem shapes2_calls (n d L : Int) (w : World) (h0 : 0 ≤ d) (h1 : d < L) (h2 : L ≤ 1000000000) (h3 : -16777214 ≤ n) (h4 : n ≤ 16777214) :
 Calls Try.prog 81 #[.int .i64 n,.int .i64 d,.int .i64 L] w fun e w' => e = .returned (.int .i64 (rnd (n * d) L)) ∧ Below w.heap.size w w' := by
 have b1 : n * d ≤ 16777214 * 1000000000 := by
  have := Int.mul_le_mul_of_nonneg_right h4 h0; omega
 have b2 : -(16777214 * 1000000000) ≤ n * d := by
  have := Int.mul_le_mul_of_nonneg_right h3 h0; omega
 have hf : Xk.f (wrap64 (n * d)) L = some (rnd (n * d) L) := by
  rw [w64 (x := n * d) (by omega) (by omega)]; exact Xk.eq (n * d) L (by omega) (by omega) (by omega) (by omega)
 have HC := Lib.hid (Xk.calls (wrap64 (n * d)) L _ w hf); clear hf b1 b2 h0 h1 h2 h3 h4
 go_enter Try.func81,Try.ntmps81
 go_wp2_with (go_at_call 44; refine HC.out.mono ?_; rintro e w' ⟨rfl,hb⟩)
 go_ret; exact ⟨rfl,hb.below⟩
theorem Ql (n d L : Int) (h0 : 0 ≤ d) (h1 : d < L) (h2 : L ≤ 1000) (h3 : -16777214 ≤ n) (h4 : n ≤ 16777214) :
 wrap64 (n * wrap64 (wrap64 (wrap64 (wrap64 (3 * d) * d) * L) - wrap64 (wrap64 (wrap64 (2 * d) * d) * d))) = n * (3 * d * d * L - 2 * d * d * d) ∧ wrap64 (wrap64 (L * L) * L) = L * L * L ∧
 -100000000000000000 ≤ n * (3 * d * d * L - 2 * d * d * d) ∧ n * (3 * d * d * L - 2 * d * d * d) ≤ 100000000000000000 ∧ 0 < L * L * L ∧ L * L * L ≤ 1000000000 := by
 have a1 := mulb (n := 3 * d) (N := 3000) (p := d) (P := 1000) (by omega) (by omega) h0 (by omega); have a2 := mulb (n := 3 * d * d) (N := 3000000) (p := L) (P := 1000) a1.1 (by omega) (by omega) h2; have a3 := mulb (n := 2 * d) (N := 2000) (p := d) (P := 1000) (by omega) (by omega) h0 (by omega); have a4 := mulb (n := 2 * d * d) (N := 2000000) (p := d) (P := 1000) a3.1 (by omega) h0 (by omega); have a5 := mulb (n := L) (N := 1000) (p := L) (P := 1000) (by omega) (by omega) (by omega) h2; have a6 := mulb (n := L * L) (N := 1000000) (p := L) (P := 1000) a5.1 (by omega) (by omega) h2
 have a7 : 1 ≤ L * L := by have := Int.mul_le_mul (show 1 ≤ L by omega) (show 1 ≤ L by omega) (by omega) (by omega); omega
 have a8 : 1 ≤ L * L * L := by have := Int.mul_le_mul a7 (show 1 ≤ L by omega) (by omega) (by omega); omega
 rw [w64 (x := 3 * d) (by omega) (by omega),w64 (x := 3 * d * d) (by omega) (by omega),w64 (x := 3 * d * d * L) (by omega) (by omega),w64 (x := 2 * d) (by omega) (by omega),w64 (x := 2 * d * d) (by omega) (by omega),w64 (x := 2 * d * d * d) (by omega) (by omega),w64 (x := L * L) (by omega) (by omega),w64 (x := L * L * L) (by omega) (by omega)]; generalize hm : 3 * d * d * L - 2 * d * d * d = m
 have m1 : -2000000000 ≤ m := by omega
 have m2 : m ≤ 3000000000 := by omega
 have c1 : n * m ≤ 100000000000000000 ∧ -100000000000000000 ≤ n * m := by
  by_cases hz : 0 ≤ m
  · have x1 := Int.mul_le_mul_of_nonneg_right h4 hz
    have x2 := Int.mul_le_mul_of_nonneg_right h3 hz; omega
  · have x1 := Int.mul_le_mul_of_nonneg_right h4 (show 0 ≤ -m by omega)
    have x2 := Int.mul_le_mul_of_nonneg_right h3 (show 0 ≤ -m by omega); rw [Int.mul_neg,Int.mul_neg] at x1 x2; omega
 have e0 : wrap64 (3 * d * d * L - 2 * d * d * d) = m := by rw [hm]; exact w64 (by omega) (by omega)
 exact ⟨by rw [w64 (x := m) (by omega) (by omega)]; exact w64 (by omega) (by omega),rfl,c1.2,c1.1,by omega,by omega⟩
set_option maxRecDepth 100000 in
theorem shapes3_calls (n d L : Int) (w : World) (h0 : 0 ≤ d) (h1 : d < L) (h2 : L ≤ 1000) (h3 : -16777214 ≤ n) (h4 : n ≤ 16777214) :
 Calls Try.prog 82 #[.int .i64 n,.int .i64 d,.int .i64 L] w fun e w' => e = .returned (.int .i64 (rnd (n * (3 * d * d * L - 2 * d * d * d)) (L * L * L))) ∧ Below w.heap.size w w' := by
 obtain ⟨e1,e2,e3,e4,e5,e6⟩ := Ql n d L h0 h1 h2 h3 h4; have hf := Xk.eq (n * (3 * d * d * L - 2 * d * d * d)) (L * L * L) (by omega) (by omega) (by omega) (by omega); rw [← e1,← e2] at hf; rw [← e1,← e2]; have HC := Lib.hid (Xk.calls _ _ _ w hf); clear hf e1 e2 e3 e4 e5 e6 h0 h1 h2 h3 h4
 go_enter Try.func82,Try.ntmps82
 go_wp2_with (go_at_call 44; refine HC.out.mono ?_; rintro e w' ⟨rfl,hb⟩)
 go_ret; exact ⟨rfl,hb.below⟩
set_option maxRecDepth 100000 in
theorem Qh (w : World) : Calls Try.prog 75 #[] w fun e w' => e = .returned (.agg #[.func (.func 80) #[] #[],.func (.func 81) #[] #[],.func (.func 82) #[] #[]]) ∧ Below w.heap.size w w' := by
 go_enter Try.func75,Try.ntmps75
 go_wp2
 have HS := Blk.new w #[.func (.func 80) #[] #[],.func (.func 81) #[] #[],.func (.func 82) #[] #[]] 96; have g0 := HS.cell 0 (v := .func (.func 80) #[] #[]) rfl; have g1 := HS.cell 1 (v := .func (.func 81) #[] #[]) rfl; have g2 := HS.cell 2 (v := .func (.func 82) #[] #[]) rfl; refine bodyPost_ret (v := .agg #[.func (.func 80) #[] #[],.func (.func 81) #[] #[],.func (.func 82) #[] #[]]) (by simp [results,Try.results75,go_sem,g0,g1,g2]) rfl ⟨rfl,?_⟩; exact (Below.refl _ w).alloc (Nat.le_refl _) _
theorem Qy (l : List S56) (k : Nat) (h : k < l.length) : l[k]? = some (Zg l k) := by
 rw [List.getElem?_eq_getElem h]; simp [Zg,h]
def c56 (x : S56) : Array Value := #[.int .i64 x.f0,.int .i64 x.f1,.int .i64 x.f2]
set_option maxRecDepth 100000 in
set_option maxHeartbeats 2000000 in
theorem IndexFunc_points (p : S56 → Bool) (g : Nat) (lb : Array Value) (eg : ∀ args w,(callFunc g args).run Try.prog w = .ok (.enter g args) w) (A : Option Addr) (c : Nat) (l : List S56) (w : World)
 (hp : PredB g lb (fun x => .agg (c56 x)) p w) (hr : Kd.C k56 w A l.length l) :
 Calls Try.prog 73 #[.slice A l.length c,.func (.func g) #[] lb] w fun e w' => e = .returned (.int .i64 (idxOf p l)) ∧ Below w.heap.size w w' := by
 have HR := Zc.mk hr; have HP := Zc.mk hp; have hmax : l.length ≤ 9223372036854775807 := Kd.C_max hr; clear hr hp
 go_enter Try.func73,Try.ntmps73
 go_wp2
 go_loopg [5,8] l.length (fun gg _ s8 wr => ∃ kk : Nat,kk ≤ l.length ∧ l.length - kk ≤ gg ∧ s8 = .int .i64 kk ∧ Zc (Below w.heap.size w wr) ∧ Zc (idxOf p l = idxFrom p kk (l.drop kk)))
 case atStart => exact ⟨0,Nat.zero_le _,by omega,rfl,⟨Below.refl _ w⟩,⟨by simp [idxOf]⟩⟩
 case round =>
  obtain ⟨kk,hkk,hg,rfl,BW,AI⟩ := hrel
  by_cases hlt : kk < l.length
  · have hltz : (kk : Int) < (l.length : Int) := by omega
    obtain ⟨ad,eA,hx0,hx1,hx2⟩ := Xx (Kd.ZO HR.out BW.out) (kk : Int) (by omega) (by omega)
    cases eA
    simp only [Int.toNat_natCast] at hx0 hx1 hx2; have hcall := HP.out wr (Zg l kk) BW.out; unfold c56 at hcall; generalize hy : Zg l (kk : Int) = y at hx0 hx1 hx2 hcall; have B := Zc.mk hy; clear hy
    cases hq : p y with
    | true =>
     rw [hq] at hcall
     go_wp2_with (go_at_fn g; refine hcall.mono ?_; rintro e w' ⟨rfl,hb'⟩)
     go_ret; exact ⟨Q0 (by rw [AI.out,Qg p l kk y kk (by rw [Qy _ _ hlt,B.out]) hq]),BW.out.trans (hb'.mono BW.out.size)⟩
    | false =>
     rw [hq] at hcall
     go_wp2_with (go_at_fn g; refine hcall.mono ?_; rintro e w' ⟨rfl,hb'⟩)
     go_roundg (l.length - (kk + 1))
     case measure => omega
     case rel => exact ⟨kk + 1,by omega,by omega,by go_num,⟨BW.out.trans (hb'.mono BW.out.size)⟩,⟨by rw [AI.out,Qe p l kk y kk (by rw [Qy _ _ hlt,B.out]) hq]; simp⟩⟩
  · have hltz : ¬ (kk : Int) < (l.length : Int) := by omega
    go_wp2
    go_ret; exact ⟨Q0 (by rw [AI.out,List.drop_eq_nil_of_le (by omega)]; rfl),BW.out⟩
theorem enters74 : ∀ args w,(callFunc 74 args).run Try.prog w = .ok (.enter 74 args) w := Go.Proofs.enters_of Try.func74 (by kernel_rfl) rfl
theorem value1_calls (x : S56) (b : Nat) (n : Int) (W : World) (hb : W.cell? ⟨b,0,none⟩ = some (.int .i64 n)) :
 Calls Try.prog 74 #[.agg (c56 x),.pointer (some ⟨b,0,none⟩)] W fun e w' => e = .returned (.bool (decide (x.f0 > n))) ∧ Below W.heap.size W w' := by
 have l1 : b < W.heap.size := World.block_lt_of_cell? _ _ hb; unfold c56
 go_enter Try.func74,Try.ntmps74
 go_wp2
 go_ret; exact ⟨rfl,(Below.refl _ _).alloc (Nat.le_refl _) _⟩
end Go.Proofs.Ytomlfbmfdoallaa.PA

namespace Go.Proofs.Ytomlfbmfdoallaa.PA
open Go.RowKit Go.Shelf Go.Proofs.YtomlfbmfdoallaaW.PrintWords Go.Proofs.YtomlfbmfdoallaaW.PrintLast Go.Proofs.YtomlfbmfdoallaaW.PrintMore
set_option linter.unusedVariables false
set_option linter.unusedSimpArgs false
def okC (t : S56) : Bool := decide (0 ≤ t.f0) && decide (t.f0 ≤ 1000000000) && (decide (-8388607 ≤ t.f1) && decide (t.f1 ≤ 8388607)) && (decide (0 ≤ t.f2) && decide (t.f2 ≤ 2))
def curveFromB : List S56 → Bool
 | [] => true
 | [t] => okC t
 | t :: t2 :: r => okC t && decide (t.f0 < t2.f0) && (decide (t.f2 ≠ 2) || decide (t2.f0 - t.f0 ≤ 1000)) && curveFromB (t2 :: r)
def curveB (l : List S56) : Bool := decide (1 ≤ l.length) && decide (l.length ≤ 100) && curveFromB l
def vfrom : List S56 → Int → Int
 | [],_ => 0
 | [t],_ => t.f1
 | t :: t2 :: r,k => if t2.f0 ≤ k then vfrom (t2 :: r) k else t.f1 + shp t.f2 (t2.f1 - t.f1) (k - t.f0) (t2.f0 - t.f0)
def valAt (l : List S56) (k : Int) : Int := if k < (Zg l 0).f0 then (Zg l 0).f1 else vfrom l k
def XB.f (l0 : List S56) (a1 : Int) : Option Int := if curveB l0 = true ∧ 0 ≤ a1 ∧ a1 ≤ 1000000000 then some (valAt l0 a1) else none
theorem Qs (t : S56) : okC t = true ↔ 0 ≤ t.f0 ∧ t.f0 ≤ 1000000000 ∧ -8388607 ≤ t.f1 ∧ t.f1 ≤ 8388607 ∧ 0 ≤ t.f2 ∧ t.f2 ≤ 2 := by simp [okC,and_assoc]
structure Seg (a b : S56) (k : Int) : Prop where
 a0 : 0 ≤ a.f0
 ak : a.f0 ≤ k
 kb : k < b.f0
 b0 : b.f0 ≤ 1000000000
 v0 : -8388607 ≤ a.f1
 v1 : a.f1 ≤ 8388607
 u0 : -8388607 ≤ b.f1
 u1 : b.f1 ≤ 8388607
 s0 : 0 ≤ a.f2
 s1 : a.f2 ≤ 2
 sm : a.f2 = 2 → b.f0 - a.f0 ≤ 1000
theorem XX {t t2 : S56} {r : List S56} (h : curveFromB (t :: t2 :: r) = true) : okC t = true ∧ t.f0 < t2.f0 ∧ (t.f2 = 2 → t2.f0 - t.f0 ≤ 1000) ∧ curveFromB (t2 :: r) = true := by
 simp only [curveFromB,Bool.and_eq_true,decide_eq_true_eq,Bool.or_eq_true] at h; exact ⟨h.1.1.1,h.1.1.2,fun e => h.1.2.resolve_left (fun n => n e),h.2⟩
theorem XU {t : S56} {r : List S56} (h : curveFromB (t :: r) = true) : okC t = true := by
 cases r with
 | nil => exact h
 | cons t2 r => exact (XX h).1
theorem XP {α : Type} (p : α → Bool) : ∀ (l : List α) (i : Int),idxFrom p i l = if l.any p then i + idxFrom p 0 l else -1
 | [],i => rfl
 | x :: xs,i => by
  have h1 := XP p xs (i + 1); have h2 := XP p xs (0 + 1); unfold idxFrom
  cases h : p x with
  | true => simp [h]
  | false =>
   simp only [h,List.any_cons,Bool.false_or,Bool.false_eq_true,if_false]; rw [h1,h2]; split
   · omega
   · rfl
theorem Yn (k : Int) : ∀ (l : List S56) (hne : l ≠ []),curveFromB l = true → (∀ t,l.head? = some t → t.f0 ≤ k) →
 (idxOf (fun x : S56 => decide (x.f0 > k)) l = -1 ∧ vfrom l k = (l.getLast hne).f1) ∨
 (∃ (m : Nat) (a b : S56),idxOf (fun x : S56 => decide (x.f0 > k)) l = (m : Int) + 1 ∧ l[m]? = some a ∧ l[m + 1]? = some b ∧ vfrom l k = a.f1 + shp a.f2 (b.f1 - a.f1) (k - a.f0) (b.f0 - a.f0) ∧ Seg a b k)
 | [],h,_,_ => absurd rfl h
 | [t],_,hc,hh => by
  have ht := hh t rfl; left; refine ⟨?_,rfl⟩; simp [idxOf,idxFrom,show ¬ k < t.f0 by omega]
 | t :: t2 :: r,_,hc,hh => by
  have ht := hh t rfl; obtain ⟨h1,h2,h3,h4⟩ := XX hc
  have e0 : idxOf (fun x : S56 => decide (x.f0 > k)) (t :: t2 :: r) = idxFrom (fun x : S56 => decide (x.f0 > k)) (0 + 1) (t2 :: r) := by
   show idxFrom _ 0 (t :: t2 :: r) = _
   conv => lhs; unfold idxFrom
   simp [show ¬ k < t.f0 by omega]
  by_cases hk : t2.f0 ≤ k
  · have hv : vfrom (t :: t2 :: r) k = vfrom (t2 :: r) k := by simp [vfrom,hk]
    have hs := XP (fun x : S56 => decide (x.f0 > k)) (t2 :: r) (0 + 1)
    rcases Yn k (t2 :: r) (by simp) h4 (fun x e => by cases e; exact hk) with ⟨q1,q2⟩ | ⟨m,a,b,q1,q2,q3,q4,q5⟩
    · left
      refine ⟨?_,by rw [hv,q2]; congr 1⟩; rw [e0,hs]; have q1' : idxFrom (fun x : S56 => decide (x.f0 > k)) 0 (t2 :: r) = -1 := q1; have hs0 := XP (fun x : S56 => decide (x.f0 > k)) (t2 :: r) 0; split
      · rename_i hany
        exfalso; have hn := Qn (fun x : S56 => decide (x.f0 > k)) (t2 :: r) 0 (by omega); rw [q1',hany] at hn; simp at hn
      · rfl
    · right
      refine ⟨m + 1,a,b,?_,by simpa using q2,by simpa using q3,by rw [hv]; exact q4,q5⟩; have q1' : idxFrom (fun x : S56 => decide (x.f0 > k)) 0 (t2 :: r) = (m : Int) + 1 := q1; have hn := Qn (fun x : S56 => decide (x.f0 > k)) (t2 :: r) 0 (by omega); rw [q1'] at hn
      have hany : (t2 :: r).any (fun x : S56 => decide (x.f0 > k)) = true := by rw [← hn]; simp; omega
      rw [e0,hs,if_pos hany,q1']
      push_cast
      omega
  · right
    refine ⟨0,t,t2,?_,rfl,rfl,by simp [vfrom,hk],?_⟩
    · rw [e0]
      unfold idxFrom; simp [show k < t2.f0 by omega]
    · have o1 := (Qs t).1 h1
      have o2 := (Qs t2).1 (XU h4); exact ⟨o1.1,ht,by omega,o2.2.1,o1.2.2.1,o1.2.2.2.1,o2.2.2.1,o2.2.2.2.1,o1.2.2.2.2.1,o1.2.2.2.2.2,h3⟩
theorem XA (W : World) (o : Obj) (a : Addr) (h : ¬ a.block = W.heap.size) : (W.alloc o).cell? a = W.cell? a := by
 have e : (W.alloc o).heap[a.block]? = W.heap[a.block]? := by
  show (W.heap.push o)[a.block]? = W.heap[a.block]?; rw [Array.getElem?_push,if_neg h]
 unfold World.cell?; rw [e]
theorem frozen_alloc_ne (W : World) (o : Obj) (a : Addr) (h : ¬ a.block = W.heap.size) : (W.alloc o).frozen? a = W.frozen? a := by
 have e : (W.alloc o).heap[a.block]? = W.heap[a.block]? := by
  show (W.heap.push o)[a.block]? = W.heap[a.block]?; rw [Array.getElem?_push,if_neg h]
 unfold World.frozen?; rw [e]
theorem XJ (W : World) (a p : Addr) (v : Value) (h : ¬ a.block = p.block) : (W.setCell a v).cell? p = W.cell? p := by
 have e := Below.heap_setCell W a v p.block (fun e => h e.symm); unfold World.cell?; rw [e]
theorem QU (W : World) (n : Nat) (cs : Array Value) (t : TypeId) (j : Nat) (v : Value) (hv : cs[j]? = some v) : ((W.drewN n).alloc (.cells cs t)).cell? ⟨W.heap.size,j,none⟩ = some v := (Blk.new (W.drewN n) cs t).cell j hv
theorem frozen_new (W : World) (n : Nat) (cs : Array Value) (t : TypeId) (j : Nat) : ((W.drewN n).alloc (.cells cs t)).frozen? ⟨W.heap.size,j,none⟩ = false := (Blk.new (W.drewN n) cs t).frozen j
theorem QO (w w1 W5 : World) (n B : Nat) (u x0 x1 x2 y0 y1 y2 : Value) (hb2 : Below w.heap.size w w1) (k0 : Blk w1 B #[u] 3)
 (hW : W5 = ((((((w1.drewN n).alloc (.cells #[.int .i64 0,.int .i64 0,.int .i64 0] 56)).setCell ⟨w1.heap.size,0,none⟩ x0).setCell ⟨w1.heap.size,1,none⟩ x1).setCell ⟨w1.heap.size,2,none⟩ x2).alloc (.cells #[y0,y1,y2] 56))) :
 Blk W5 w1.heap.size #[x0,x1,x2] 56 ∧ Blk W5 (w1.heap.size + 1) #[y0,y1,y2] 56 ∧ Blk W5 B #[u] 3 ∧ Below w.heap.size w W5 := by
 have n0 : Blk ((w1.drewN n).alloc (.cells #[.int .i64 0,.int .i64 0,.int .i64 0] 56)) w1.heap.size #[.int .i64 0,.int .i64 0,.int .i64 0] 56 := Blk.new (w1.drewN n) _ _; have n1 := set3' _ _ _ _ x0 x1 x2 n0 rfl; have m0 : Blk ((w1.drewN n).alloc (.cells #[.int .i64 0,.int .i64 0,.int .i64 0] 56)) B #[u] 3 := (k0.drewN n).alloc _
 have hne : B ≠ w1.heap.size := by have := k0.lt; omega
 have m1 := ((m0.other (a := ⟨w1.heap.size,0,none⟩) x0 hne).other (a := ⟨w1.heap.size,1,none⟩) x1 hne).other (a := ⟨w1.heap.size,2,none⟩) x2 hne; have q0 : Below w.heap.size w ((w1.drewN n).alloc (.cells #[.int .i64 0,.int .i64 0,.int .i64 0] 56)) := (Za hb2 n).alloc hb2.size _; have q1 := ((q0.setCell (show w.heap.size ≤ (Addr.mk w1.heap.size 0 none).block from hb2.size) x0).setCell (show w.heap.size ≤ (Addr.mk w1.heap.size 1 none).block from hb2.size) x1).setCell (show w.heap.size ≤ (Addr.mk w1.heap.size 2 none).block from hb2.size) x2
 have hs : (((((w1.drewN n).alloc (.cells #[.int .i64 0,.int .i64 0,.int .i64 0] 56)).setCell ⟨w1.heap.size,0,none⟩ x0).setCell ⟨w1.heap.size,1,none⟩ x1).setCell ⟨w1.heap.size,2,none⟩ x2).heap.size = w1.heap.size + 1 := by simp
 subst hW; refine ⟨n1.alloc _,?_,m1.alloc _,q1.alloc q1.size _⟩; have := Blk.new (((((w1.drewN n).alloc (.cells #[.int .i64 0,.int .i64 0,.int .i64 0] 56)).setCell ⟨w1.heap.size,0,none⟩ x0).setCell ⟨w1.heap.size,1,none⟩ x1).setCell ⟨w1.heap.size,2,none⟩ x2) #[y0,y1,y2] 56; rw [hs] at this; exact this
theorem Y1 (a b M : Int) (hb : 0 < b) (h0 : -M ≤ a) (h1 : a ≤ M) : -(M + 1) ≤ rnd a b ∧ rnd a b ≤ M + 1 := by
 have key : ∀ x : Int,0 ≤ x → 0 ≤ (2 * x + b) / (2 * b) ∧ (2 * x + b) / (2 * b) ≤ x + 1 := fun x hx => by
  refine ⟨Int.ediv_nonneg (by omega) (by omega),?_⟩; have h := Int.mul_le_mul_of_nonneg_left (show 1 ≤ b by omega) hx; rw [Int.mul_one] at h; refine Int.ediv_le_of_le_mul (by omega) ?_; rw [Int.add_mul,Int.one_mul,Int.mul_comm x (2 * b),Int.mul_assoc,Int.mul_comm b x]; omega
 unfold rnd; split
 · have := key (-a) (by omega)
   rw [show -2 * a + b = 2 * -a + b by omega]; omega
 · have := key a (by omega)
   omega
theorem QY {a b : S56} {k : Int} (h : Seg a b k) : -1000000000000000000 ≤ shp a.f2 (b.f1 - a.f1) (k - a.f0) (b.f0 - a.f0) ∧ shp a.f2 (b.f1 - a.f1) (k - a.f0) (b.f0 - a.f0) ≤ 1000000000000000000 := by
 have a0 := h.a0; have ak := h.ak; have kb := h.kb; have b0 := h.b0; have v0 := h.v0; have v1 := h.v1; have u0 := h.u0; have u1 := h.u1; have s0 := h.s0; have s1 := h.s1; have sm := h.sm; unfold shp
 by_cases h0 : a.f2 = 0
 · rw [if_pos h0]; omega
 · rw [if_neg h0]
   by_cases h1 : a.f2 = 1
   · rw [if_pos h1]
     have x1 := Int.mul_le_mul_of_nonneg_right (show b.f1 - a.f1 ≤ 16777214 by omega) (show 0 ≤ k - a.f0 by omega); have x2 := Int.mul_le_mul_of_nonneg_right (show -16777214 ≤ b.f1 - a.f1 by omega) (show 0 ≤ k - a.f0 by omega); have := Y1 ((b.f1 - a.f1) * (k - a.f0)) (b.f0 - a.f0) 100000000000000000 (by omega) (by omega) (by omega); omega
   · rw [if_neg h1]
     have hl := sm (by omega); obtain ⟨e1,e2,e3,e4,e5,e6⟩ := Ql (b.f1 - a.f1) (k - a.f0) (b.f0 - a.f0) (by omega) (by omega) hl (by omega) (by omega); have := Y1 _ _ 100000000000000000 e5 e3 e4; omega
theorem shape_calls {a b : S56} {k : Int} (h : Seg a b k) (s : Nat) (hs : a.f2 = s) (g : Nat) (hg : g = 80 + s) (w : World) :
 Calls Try.prog g #[.int .i64 (b.f1 - a.f1),.int .i64 (k - a.f0),.int .i64 (b.f0 - a.f0)] w fun e w' => e = .returned (.int .i64 (shp a.f2 (b.f1 - a.f1) (k - a.f0) (b.f0 - a.f0))) ∧ Below w.heap.size w w' := by
 have a0 := h.a0; have ak := h.ak; have kb := h.kb; have b0 := h.b0; have v0 := h.v0; have v1 := h.v1; have u0 := h.u0; have u1 := h.u1; have s0 := h.s0; have s1 := h.s1; have sm := h.sm; unfold shp
 match s,hs,hg with
 | 0,hs,hg =>
  subst hg; rw [if_pos (by simpa using hs)]; exact shapes1_calls _ _ _ _
 | 1,hs,hg =>
  subst hg
  have hs' : a.f2 = 1 := by simpa using hs
  rw [if_neg (by omega),if_pos hs']; exact shapes2_calls _ _ _ _ (by omega) (by omega) (by omega) (by omega) (by omega)
 | 2,hs,hg =>
  subst hg
  have hs' : a.f2 = 2 := by simpa using hs
  rw [if_neg (by omega),if_neg (by omega)]; exact shapes3_calls _ _ _ _ (by omega) (by omega) (sm hs') (by omega) (by omega)
 | s + 3,hs,hg => omega
theorem Yf {l : List S56} {k : Nat} {a : S56} (h : l[k]? = some a) : Zg l (k : Int) = a := by simp [Zg,h]
set_option maxRecDepth 100000 in
set_option maxHeartbeats 2000000 in
theorem XB.calls (A0 : Option Addr) (c0 : Nat) (l0 : List (S56)) (a1 : Int) (r : Int) (w : World) (hr0 : Kd.C k56 w A0 l0.length l0) (hc0 : l0.length ≤ c0) (h : XB.f l0 a1 = some r) :
 Calls Try.prog 57 #[.slice A0 l0.length c0,.int .i64 a1] w fun e w' => e = .returned (.int .i64 r) ∧ Below w.heap.size w w' := by
 unfold XB.f at h; split at h
 · rename_i hg
   obtain ⟨hok,t0,t1⟩ := hg; obtain rfl := Option.some.inj h; clear h; simp only [curveB,Bool.and_eq_true,decide_eq_true_eq] at hok; obtain ⟨⟨n1,n2⟩,hcv⟩ := hok
   have hne : l0 ≠ [] := by intro e; subst e; simp at n1
   have k0 := Blk.new w #[.int .i64 a1] 3; have hb0 := (Below.refl _ w).alloc (Nat.le_refl _) (.cells #[.int .i64 a1] 3)
   have HI := fun (w0 : World) (hw : w0 = w.alloc (.cells #[.int .i64 a1] 3)) => Lib.hid (IndexFunc_points (fun x => decide (x.f0 > a1)) 74 #[.pointer (some ⟨w.heap.size,0,none⟩)] enters74 A0 c0 l0 w0 (fun W x hW => value1_calls x _ a1 W (by rw [hw] at hW; exact (hW.cell (p := ⟨w.heap.size,0,none⟩) k0.lt).trans (k0.cell 0 rfl))) (by rw [hw]; exact Kd.ZO hr0 hb0))
   have HI := HI _ rfl
   have hmf : ∀ (fn : Fn) (first cap : Array Value) (w : World),(Instr.makeFunc fn first cap).run Try.prog w = .ok (.func fn first cap) w := fun _ _ _ _ => rfl
   have HR := Lib.hid hr0; clear hr0
   have HK := fun (w1 : World) (hb1 : Below (w.alloc (.cells #[.int .i64 a1] 3)).heap.size (w.alloc (.cells #[.int .i64 a1] 3)) w1) => Kd.ZO HR.out (hb0.trans (hb1.mono hb0.size))
   have HK' := Lib.hid HK; clear HK; unfold valAt
   have hz : (0 : Int) < (l0.length : Int) := by omega
   by_cases hlt : a1 < (Zg l0 0).f0
   · rw [if_pos hlt]
     generalize hj : idxOf (fun x : S56 => decide (x.f0 > a1)) l0 = j at *
     have HJ := Zc.mk hj; clear hj hcv hne
     go_enter Try.func57,Try.ntmps57
     go_wp2_with (fail)
     refine HI.out.mono ?_; rintro e w1 ⟨rfl,hb1⟩; obtain ⟨ad0,eA0,hx0,hx1,hx2⟩ := Xx (HK'.out w1 hb1) 0 (by omega) (by omega)
     cases eA0
     simp only [Int.toNat_zero,Nat.zero_mul,Addr.add_zero'] at hx0 hx1 hx2; have kc : w1.cell? ⟨w.heap.size,0,none⟩ = some (.int .i64 a1) := (k0.Xv hb1).cell 0 rfl; generalize hp0 : Zg l0 0 = p0 at hx0 hx1 hx2 hlt; have HP0 := Zc.mk hp0; clear hp0; have hb2 : Below w.heap.size w w1 := hb0.trans (hb1.mono hb0.size); clear hb1 hb0 HI k0
     go_wp2_with (fail)
     go_quiet (fail)
     go_wp2
     go_ret; exact ⟨by rw [HP0.out]; rfl,by apply Za; exact hb2⟩
   · rw [if_neg hlt]
     have hsp := Yn a1 l0 hne hcv (fun t e => by
      have : Zg l0 0 = t := by
       cases l0 with
       | nil => simp at e
       | cons x xs => cases e; rfl
      rw [← this]; omega)
     rcases hsp with ⟨q1,q2⟩ | ⟨m,a,b,q1,q2,q3,q4,q5⟩
     · rw [q1] at HI
       have hlast : Zg l0 ((l0.length : Int) - 1) = l0.getLast hne := by
        rw [List.getLast_eq_getElem]
        have : ((l0.length : Int) - 1).toNat = l0.length - 1 := by omega
        simp [Zg,this,show l0.length - 1 < l0.length by omega]
       rw [q2,← hlast]; clear q1 q2 hcv hlast hne
       go_enter Try.func57,Try.ntmps57
       go_wp2_with (fail)
       refine HI.out.mono ?_; rintro e w1 ⟨rfl,hb1⟩; obtain ⟨ad0,eA0,hx0,hx1,hx2⟩ := Xx (HK'.out w1 hb1) 0 (by omega) (by omega); obtain ⟨ad1,eA1,hy0,hy1,hy2⟩ := Xx (HK'.out w1 hb1) ((l0.length : Int) - 1) (by omega) (by omega)
       cases eA0
       cases eA1
       simp only [Int.toNat_zero,Nat.zero_mul,Addr.add_zero'] at hx0 hx1 hx2; have kc : w1.cell? ⟨w.heap.size,0,none⟩ = some (.int .i64 a1) := (k0.Xv hb1).cell 0 rfl; generalize hp0 : Zg l0 0 = p0 at hx0 hx1 hx2 hlt; generalize hpn : Zg l0 ((l0.length : Int) - 1) = pn at hy0 hy1 hy2; have HPN := Zc.mk hpn; clear hp0 hpn
       have hnat : ((l0.length : Int) - 1).toNat = l0.length - 1 := by omega
       rw [hnat] at hy0 hy1 hy2; have hw : IntKind.i64.wrap ((l0.length : Int) - 1) = (l0.length : Int) - 1 := (i64_w _).trans (w64 (by omega) (by omega))
       have hi0 : (0 : Int) ≤ (l0.length : Int) - 1 := by omega
       have hi1 : (l0.length : Int) - 1 < (l0.length : Int) := by omega
       have hb2 : Below w.heap.size w w1 := hb0.trans (hb1.mono hb0.size); clear hb1 hb0 HI k0
       go_wp2_with (fail)
       go_quiet (fail)
       go_wp2
       go_ret; exact ⟨by rw [HPN.out]; rfl,by apply Za; exact hb2⟩
     · rw [q1] at HI
       obtain ⟨hm,_⟩ := List.getElem?_eq_some_iff.1 q2; obtain ⟨hm1,_⟩ := List.getElem?_eq_some_iff.1 q3; rw [q4]; clear q1 q4 hcv hne; have ra := Yf q2; have rb := Yf q3; clear q2 q3
       go_enter Try.func57,Try.ntmps57
       go_wp2_with (fail)
       refine HI.out.mono ?_; rintro e w1 ⟨rfl,hb1⟩; obtain ⟨ad0,eA0,hx0,hx1,hx2⟩ := Xx (HK'.out w1 hb1) 0 (by omega) (by omega); obtain ⟨ad1,eA1,hy0,hy1,hy2⟩ := Xx (HK'.out w1 hb1) (m : Int) (by omega) (by omega); obtain ⟨ad2,eA2,hz0,hz1,hz2⟩ := Xx (HK'.out w1 hb1) ((m + 1 : Nat) : Int) (by omega) (by omega)
       cases eA0
       cases eA1
       cases eA2
       rw [ra] at hy0 hy1 hy2; rw [rb] at hz0 hz1 hz2; simp only [Int.toNat_zero,Nat.zero_mul,Addr.add_zero',Int.toNat_natCast] at hx0 hx1 hx2 hy0 hy1 hy2 hz0 hz1 hz2; have k1 := k0.Xv hb1; have kc : w1.cell? ⟨w.heap.size,0,none⟩ = some (.int .i64 a1) := (k0.Xv hb1).cell 0 rfl; generalize hp0 : Zg l0 0 = p0 at hx0 hx1 hx2 hlt; clear hp0; have hw2 : IntKind.i64.wrap ((m : Int) + 1) = (m : Int) + 1 := (i64_w _).trans (w64 (by omega) (by omega))
       have hm0 : (0 : Int) ≤ (m : Int) := by omega
       have hm2 : (m : Int) < (l0.length : Int) := by omega
       have hm3 : (m : Int) + 1 < (l0.length : Int) := by omega
       have hm4 : ((m : Int) + 1).toNat = m + 1 := by omega
       have hm5 : (0 : Int) ≤ (m : Int) + 1 := by omega
       obtain ⟨P,hP⟩ : ∃ P,ad0.add (m * 3) = P := ⟨_,rfl⟩
       obtain ⟨R,hR⟩ : ∃ R,ad0.add ((m + 1) * 3) = R := ⟨_,rfl⟩
       rw [hP] at hy0 hy1 hy2; rw [hR] at hz0 hz1 hz2; have p1 : P.block < w1.heap.size := World.block_lt_of_cell? _ _ hy0; have p2 : R.block < w1.heap.size := World.block_lt_of_cell? _ _ hz0
       have p3 : P.block < w1.heap.size + 1 := by omega
       have p4 : R.block < w1.heap.size + 1 := by omega
       have ne1 : ¬ P.block = w1.heap.size := by omega
       have ne2 : ¬ w1.heap.size = P.block := by omega
       have ne3 : ¬ P.block = w1.heap.size + 1 := by omega
       have ne4 : ¬ w1.heap.size + 1 = P.block := by omega
       have ne5 : ¬ R.block = w1.heap.size := by omega
       have ne6 : ¬ w1.heap.size = R.block := by omega
       have ne7 : ¬ R.block = w1.heap.size + 1 := by omega
       have ne8 : ¬ w1.heap.size + 1 = R.block := by omega
       have hw : IntKind.i64.wrap (((m : Int) + 1) - 1) = (m : Int) := by rw [show (m : Int) + 1 - 1 = (m : Int) by omega]; exact (i64_w _).trans (w64 (by omega) (by omega))
       have hb2 : Below w.heap.size w w1 := hb0.trans (hb1.mono hb0.size); clear hb1 hb0 HI k0
       go_wp2_with (fail)
       go_quiet (fail)
       go_wp2
       have ha0 := fun W o => XA W o P
       have ha1 := fun W o => XA W o ⟨P.block,P.off + 1,none⟩
       have ha2 := fun W o => XA W o ⟨P.block,P.off + 2,none⟩
       have ha3 := fun W o => XA W o R
       have ha4 := fun W o => XA W o ⟨R.block,R.off + 1,none⟩
       have ha5 := fun W o => XA W o ⟨R.block,R.off + 2,none⟩
       have hn0 := fun n cs t v hv => QU w1 n cs t 0 v hv
       have hn1 := fun n cs t v hv => QU w1 n cs t 1 v hv
       have hn2 := fun n cs t v hv => QU w1 n cs t 2 v hv
       have hz' := frozen_new w1
       have hs0 := fun W o j => XA W o ⟨w1.heap.size,j,none⟩
       have hs1 := fun W o j => frozen_alloc_ne W o ⟨w1.heap.size,j,none⟩
       have hc0' := fun W j v => XJ W ⟨w1.heap.size,j,none⟩ P v
       have hc1 := fun W j v => XJ W ⟨w1.heap.size,j,none⟩ ⟨P.block,P.off + 1,none⟩ v
       have hc2 := fun W j v => XJ W ⟨w1.heap.size,j,none⟩ ⟨P.block,P.off + 2,none⟩ v
       have hc3 := fun W j v => XJ W ⟨w1.heap.size,j,none⟩ R v
       have hc4 := fun W j v => XJ W ⟨w1.heap.size,j,none⟩ ⟨R.block,R.off + 1,none⟩ v
       have hc5 := fun W j v => XJ W ⟨w1.heap.size,j,none⟩ ⟨R.block,R.off + 2,none⟩ v
       go_region
       all_goals first
        | (obtain ⟨W5,hW5⟩ : ∃ W,W = ((((((w1.drewN (nq + 1)).alloc (.cells #[.int .i64 0,.int .i64 0,.int .i64 0] 56)).setCell ⟨w1.heap.size,0,none⟩ (.int .i64 a.f0)).setCell ⟨w1.heap.size,1,none⟩ (.int .i64 a.f1)).setCell ⟨w1.heap.size,2,none⟩ (.int .i64 a.f2)).alloc (.cells #[.int .i64 b.f0,.int .i64 b.f1,.int .i64 b.f2] 56)) := ⟨_,rfl⟩; obtain ⟨k6,k7,k8,hb5⟩ := QO _ _ _ _ _ _ _ _ _ _ _ _ hb2 k1 hW5; rw [← hW5]; generalize w1.heap.size + 1 = p7 at k6 k7 ⊢; generalize w1.heap.size = p6 at k6 k7 ⊢)
        | (obtain ⟨W5,hW5⟩ : ∃ W,W = ((((((w1.drewN (nq + 1)).alloc (.cells #[.int .i64 0,.int .i64 0,.int .i64 0] 56)).setCell ⟨w1.heap.size,0,none⟩ (.int .i64 b.f0)).setCell ⟨w1.heap.size,1,none⟩ (.int .i64 b.f1)).setCell ⟨w1.heap.size,2,none⟩ (.int .i64 b.f2)).alloc (.cells #[.int .i64 a.f0,.int .i64 a.f1,.int .i64 a.f2] 56)) := ⟨_,rfl⟩; obtain ⟨k7,k6,k8,hb5⟩ := QO _ _ _ _ _ _ _ _ _ _ _ _ hb2 k1 hW5; rw [← hW5]; generalize w1.heap.size + 1 = p6 at k6 k7 ⊢; generalize w1.heap.size = p7 at k6 k7 ⊢)
       all_goals
        clear hW5 hb2 k1 kc hx0 hx1 hx2 hy0 hy1 hy2 hz0 hz1 hz2 p1 p2 p3 p4 ne1 ne2 ne3 ne4 ne5 ne6 ne7 ne8 ha0 ha1 ha2 ha3 ha4 ha5 hn0 hn1 hn2 hz' hs0 hs1 hc0' hc1 hc2 hc3 hc4 hc5 hP hR hw hw2 HK'; have a0 := q5.a0; have ak := q5.ak; have kb := q5.kb; have b0 := q5.b0; have v0 := q5.v0; have v1 := q5.v1; have z0 := q5.u0; have z1 := q5.u1; have s0 := q5.s0; have s1 := q5.s1; have hsb := QY q5; have w1' : IntKind.i64.wrap (b.f1 - a.f1) = b.f1 - a.f1 := (i64_w _).trans (w64 (by omega) (by omega)); have w2' : IntKind.i64.wrap (a1 - a.f0) = a1 - a.f0 := (i64_w _).trans (w64 (by omega) (by omega)); have w3' : IntKind.i64.wrap (b.f0 - a.f0) = b.f0 - a.f0 := (i64_w _).trans (w64 (by omega) (by omega))
        have HC := fun s hs g hg w => Lib.hid (shape_calls q5 s hs g hg w)
        generalize hsv : shp a.f2 (b.f1 - a.f1) (a1 - a.f0) (b.f0 - a.f0) = sv at hsb HC; have w4' : IntKind.i64.wrap (a.f1 + sv) = a.f1 + sv := (i64_w _).trans (w64 (by omega) (by omega)); have HSV := Zc.mk hsv
        have hs3 : a.f2 = ((0 : Nat) : Int) ∨ a.f2 = ((1 : Nat) : Int) ∨ a.f2 = ((2 : Nat) : Int) := by omega
        clear hsv hsb
        rcases hs3 with hs3 | hs3 | hs3
        · rw [hs3] at k6
          have hc := fun w => HC 0 hs3 80 rfl w
          have hix : ∀ w,(Instr.index 96 (.agg #[.func (.func 80) #[] #[],.func (.func 81) #[] #[],.func (.func 82) #[] #[]]) (.int .i64 0)).run Try.prog w = .ok (.func (.func 80) #[] #[]) w := fun _ => by kernel_rfl
          clear HC a0 ak kb b0 v0 v1 z0 z1 s0 s1; have q60 := k6.cell 0 (v := .int .i64 a.f0) rfl; have q61 := k6.cell 1 (v := .int .i64 a.f1) rfl; have q62 := k6.cell 2 (v := .int .i64 0) rfl; have q70 := k7.cell 0 (v := .int .i64 b.f0) rfl; have q71 := k7.cell 1 (v := .int .i64 b.f1) rfl; have q80 := k8.cell 0 (v := .int .i64 a1) rfl
          go_wp2_with (fail)
          go_region_held3 (fun w' => w'.cell? ⟨p6,0,none⟩ = some (.int .i64 a.f0) ∧ w'.cell? ⟨p6,1,none⟩ = some (.int .i64 a.f1) ∧ w'.cell? ⟨p6,2,none⟩ = some (.int .i64 0) ∧ w'.cell? ⟨p7,0,none⟩ = some (.int .i64 b.f0) ∧ w'.cell? ⟨p7,1,none⟩ = some (.int .i64 b.f1) ∧ w'.cell? ⟨w.heap.size,0,none⟩ = some (.int .i64 a1)) (simp [go_sem, *])
           (first | (go_at_call 75; refine (Qh _).mono ?_; rintro e w' ⟨rfl,hb4⟩; have hb3' := Below.call_ hb5 hb5.size hb4 ⟨rfl,rfl,rfl,rfl⟩; have k6' := Blk.call k6 hb4 rfl; have k7' := Blk.call k7 hb4 rfl; have k8' := Blk.call k8 hb4 rfl; clear hb5 k6 k7 k8 hb4 q60 q61 q62 q70 q71 q80; have hb5 := hb3'; have k6 := k6'; have k7 := k7'; have k8 := k8'; clear hb3' k6' k7' k8'; have q60 := k6.cell 0 (v := .int .i64 a.f0) rfl; have q61 := k6.cell 1 (v := .int .i64 a.f1) rfl; have q62 := k6.cell 2 (v := .int .i64 0) rfl; have q70 := k7.cell 0 (v := .int .i64 b.f0) rfl; have q71 := k7.cell 1 (v := .int .i64 b.f1) rfl; have q80 := k8.cell 0 (v := .int .i64 a1) rfl) | (go_at_call 80; refine (hc _).out.mono ?_; rintro e w' ⟨rfl,hb4⟩; have hb3' := Below.call_ hb5 hb5.size hb4 ⟨rfl,rfl,rfl,rfl⟩; have k6' := Blk.call k6 hb4 rfl; have k7' := Blk.call k7 hb4 rfl; have k8' := Blk.call k8 hb4 rfl; clear hb5 k6 k7 k8 hb4 q60 q61 q62 q70 q71 q80; have hb5 := hb3'; have k6 := k6'; have k7 := k7'; have k8 := k8'; clear hb3' k6' k7' k8'; have q60 := k6.cell 0 (v := .int .i64 a.f0) rfl; have q61 := k6.cell 1 (v := .int .i64 a.f1) rfl; have q62 := k6.cell 2 (v := .int .i64 0) rfl; have q70 := k7.cell 0 (v := .int .i64 b.f0) rfl; have q71 := k7.cell 1 (v := .int .i64 b.f1) rfl; have q80 := k8.cell 0 (v := .int .i64 a1) rfl))
          go_wp2
          go_ret; exact ⟨by rw [HSV.out]; rfl,by first | exact hb5 | (apply Za; exact hb5) | exact hb5.drew⟩
        · rw [hs3] at k6
          have hc := fun w => HC 1 hs3 81 rfl w
          have hix : ∀ w,(Instr.index 96 (.agg #[.func (.func 80) #[] #[],.func (.func 81) #[] #[],.func (.func 82) #[] #[]]) (.int .i64 1)).run Try.prog w = .ok (.func (.func 81) #[] #[]) w := fun _ => by kernel_rfl
          clear HC a0 ak kb b0 v0 v1 z0 z1 s0 s1; have q60 := k6.cell 0 (v := .int .i64 a.f0) rfl; have q61 := k6.cell 1 (v := .int .i64 a.f1) rfl; have q62 := k6.cell 2 (v := .int .i64 1) rfl; have q70 := k7.cell 0 (v := .int .i64 b.f0) rfl; have q71 := k7.cell 1 (v := .int .i64 b.f1) rfl; have q80 := k8.cell 0 (v := .int .i64 a1) rfl
          go_wp2_with (fail)
          go_region_held3 (fun w' => w'.cell? ⟨p6,0,none⟩ = some (.int .i64 a.f0) ∧ w'.cell? ⟨p6,1,none⟩ = some (.int .i64 a.f1) ∧ w'.cell? ⟨p6,2,none⟩ = some (.int .i64 1) ∧ w'.cell? ⟨p7,0,none⟩ = some (.int .i64 b.f0) ∧ w'.cell? ⟨p7,1,none⟩ = some (.int .i64 b.f1) ∧ w'.cell? ⟨w.heap.size,0,none⟩ = some (.int .i64 a1)) (simp [go_sem, *])
           (first | (go_at_call 75; refine (Qh _).mono ?_; rintro e w' ⟨rfl,hb4⟩; have hb3' := Below.call_ hb5 hb5.size hb4 ⟨rfl,rfl,rfl,rfl⟩; have k6' := Blk.call k6 hb4 rfl; have k7' := Blk.call k7 hb4 rfl; have k8' := Blk.call k8 hb4 rfl; clear hb5 k6 k7 k8 hb4 q60 q61 q62 q70 q71 q80; have hb5 := hb3'; have k6 := k6'; have k7 := k7'; have k8 := k8'; clear hb3' k6' k7' k8'; have q60 := k6.cell 0 (v := .int .i64 a.f0) rfl; have q61 := k6.cell 1 (v := .int .i64 a.f1) rfl; have q62 := k6.cell 2 (v := .int .i64 1) rfl; have q70 := k7.cell 0 (v := .int .i64 b.f0) rfl; have q71 := k7.cell 1 (v := .int .i64 b.f1) rfl; have q80 := k8.cell 0 (v := .int .i64 a1) rfl) | (go_at_call 81; refine (hc _).out.mono ?_; rintro e w' ⟨rfl,hb4⟩; have hb3' := Below.call_ hb5 hb5.size hb4 ⟨rfl,rfl,rfl,rfl⟩; have k6' := Blk.call k6 hb4 rfl; have k7' := Blk.call k7 hb4 rfl; have k8' := Blk.call k8 hb4 rfl; clear hb5 k6 k7 k8 hb4 q60 q61 q62 q70 q71 q80; have hb5 := hb3'; have k6 := k6'; have k7 := k7'; have k8 := k8'; clear hb3' k6' k7' k8'; have q60 := k6.cell 0 (v := .int .i64 a.f0) rfl; have q61 := k6.cell 1 (v := .int .i64 a.f1) rfl; have q62 := k6.cell 2 (v := .int .i64 1) rfl; have q70 := k7.cell 0 (v := .int .i64 b.f0) rfl; have q71 := k7.cell 1 (v := .int .i64 b.f1) rfl; have q80 := k8.cell 0 (v := .int .i64 a1) rfl))
          go_wp2
          go_ret; exact ⟨by rw [HSV.out]; rfl,by first | exact hb5 | (apply Za; exact hb5) | exact hb5.drew⟩
        · rw [hs3] at k6
          have hc := fun w => HC 2 hs3 82 rfl w
          have hix : ∀ w,(Instr.index 96 (.agg #[.func (.func 80) #[] #[],.func (.func 81) #[] #[],.func (.func 82) #[] #[]]) (.int .i64 2)).run Try.prog w = .ok (.func (.func 82) #[] #[]) w := fun _ => by kernel_rfl
          clear HC a0 ak kb b0 v0 v1 z0 z1 s0 s1; have q60 := k6.cell 0 (v := .int .i64 a.f0) rfl; have q61 := k6.cell 1 (v := .int .i64 a.f1) rfl; have q62 := k6.cell 2 (v := .int .i64 2) rfl; have q70 := k7.cell 0 (v := .int .i64 b.f0) rfl; have q71 := k7.cell 1 (v := .int .i64 b.f1) rfl; have q80 := k8.cell 0 (v := .int .i64 a1) rfl
          go_wp2_with (fail)
          go_region_held3 (fun w' => w'.cell? ⟨p6,0,none⟩ = some (.int .i64 a.f0) ∧ w'.cell? ⟨p6,1,none⟩ = some (.int .i64 a.f1) ∧ w'.cell? ⟨p6,2,none⟩ = some (.int .i64 2) ∧ w'.cell? ⟨p7,0,none⟩ = some (.int .i64 b.f0) ∧ w'.cell? ⟨p7,1,none⟩ = some (.int .i64 b.f1) ∧ w'.cell? ⟨w.heap.size,0,none⟩ = some (.int .i64 a1)) (simp [go_sem, *])
           (first | (go_at_call 75; refine (Qh _).mono ?_; rintro e w' ⟨rfl,hb4⟩; have hb3' := Below.call_ hb5 hb5.size hb4 ⟨rfl,rfl,rfl,rfl⟩; have k6' := Blk.call k6 hb4 rfl; have k7' := Blk.call k7 hb4 rfl; have k8' := Blk.call k8 hb4 rfl; clear hb5 k6 k7 k8 hb4 q60 q61 q62 q70 q71 q80; have hb5 := hb3'; have k6 := k6'; have k7 := k7'; have k8 := k8'; clear hb3' k6' k7' k8'; have q60 := k6.cell 0 (v := .int .i64 a.f0) rfl; have q61 := k6.cell 1 (v := .int .i64 a.f1) rfl; have q62 := k6.cell 2 (v := .int .i64 2) rfl; have q70 := k7.cell 0 (v := .int .i64 b.f0) rfl; have q71 := k7.cell 1 (v := .int .i64 b.f1) rfl; have q80 := k8.cell 0 (v := .int .i64 a1) rfl) | (go_at_call 82; refine (hc _).out.mono ?_; rintro e w' ⟨rfl,hb4⟩; have hb3' := Below.call_ hb5 hb5.size hb4 ⟨rfl,rfl,rfl,rfl⟩; have k6' := Blk.call k6 hb4 rfl; have k7' := Blk.call k7 hb4 rfl; have k8' := Blk.call k8 hb4 rfl; clear hb5 k6 k7 k8 hb4 q60 q61 q62 q70 q71 q80; have hb5 := hb3'; have k6 := k6'; have k7 := k7'; have k8 := k8'; clear hb3' k6' k7' k8'; have q60 := k6.cell 0 (v := .int .i64 a.f0) rfl; have q61 := k6.cell 1 (v := .int .i64 a.f1) rfl; have q62 := k6.cell 2 (v := .int .i64 2) rfl; have q70 := k7.cell 0 (v := .int .i64 b.f0) rfl; have q71 := k7.cell 1 (v := .int .i64 b.f1) rfl; have q80 := k8.cell 0 (v := .int .i64 a1) rfl))
          go_wp2
          go_ret; exact ⟨by rw [HSV.out]; rfl,by first | exact hb5 | (apply Za; exact hb5) | exact hb5.drew⟩
 · cases h
end Go.Proofs.Ytomlfbmfdoallaa.PA

namespace Go.Proofs.Ytomlfbmfdoallaa.PA
open Go.RowKit Go.Proofs.YtomlfbmfdoallaaW.PrintWords Go.Proofs.YtomlfbmfdoallaaW.PrintLast Go.Proofs.YtomlfbmfdoallaaW.PrintMore
attribute [local go_sem] Xf Xg Xo Xn Xa ZZ Xh Xi
set_option linter.unusedVariables false
set_option linter.unusedSimpArgs false
end Go.Proofs.Ytomlfbmfdoallaa.PA
