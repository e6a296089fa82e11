/- TempoCurves, part 4: what the row is built on. -/
import Derived.Test.YtomlfbmfdoallaaCTempoCurves3
namespace Go.Proofs.Ytomlfbmfdoallaa.PA
open Go.RowKit Go.Proofs.YtomlfbmfdoallaaW.PrintWords Go.Proofs.YtomlfbmfdoallaaW.PrintLast Go.Proofs.YtomlfbmfdoallaaW.PrintMore
attribute [local go_sem] Xf Xe Xj Xk ZV ZU Xd Xc
set_option linter.unusedVariables false
set_option linter.unusedSimpArgs false
mutual
def Zk.l0 : Nat → List (S56) → List (S56) → Int → Int → Option (Bool)
 | 0,_,_,_,_ => none
 | k + 1,x0,x9,x10,x11 => if x11 < x10 then (if 0 ≤ x11 then (if x11 < (x9.length : Int) then ((Z1.f ((Ze x9 x11).f0) 0 1000000000).bind fun t338 => (if t338 = true then ((Z1.f ((Ze x9 x11).f1) (-8388607) 8388607).bind fun t339 => (if t339 = true then ((Z1.f ((Ze x9 x11).f2) 0 2).bind fun t340 => (if t340 = true then (if x11 > 0 then (if 0 ≤ (wrap64 (x11 - 1)) then (if (wrap64 (x11 - 1)) < (x0.length : Int) then (Zk.j1 k x0 x11 x9 x10 x11 (decide (((Ze x0 (wrap64 (x11 - 1))).f0) ≥ ((Ze x9 x11).f0))) ((Ze x9 x11).f0) ((Ze x9 x11).f1) ((Ze x9 x11).f2)) else (none)) else (none)) else (Zk.j1 k x0 x11 x9 x10 x11 false ((Ze x9 x11).f0) ((Ze x9 x11).f1) ((Ze x9 x11).f2))) else (Zk.j1 k x0 x11 x9 x10 x11 true ((Ze x9 x11).f0) ((Ze x9 x11).f1) ((Ze x9 x11).f2)))) else (Zk.j1 k x0 x11 x9 x10 x11 true ((Ze x9 x11).f0) ((Ze x9 x11).f1) ((Ze x9 x11).f2)))) else (Zk.j1 k x0 x11 x9 x10 x11 true ((Ze x9 x11).f0) ((Ze x9 x11).f1) ((Ze x9 x11).f2)))) else (none)) else (none)) else (some true)
def Zk.j1 : Nat → List (S56) → Int → List (S56) → Int → Int → Bool → Int → Int → Int → Option (Bool)
 | 0,_,_,_,_,_,_,_,_,_ => none
 | k + 1,x0,x3,x9,x10,x11,x46,x338000,x338001,x338002 => if x46 = true then (some false) else (if x338002 = 2 then (if (wrap64 (x3 + 1)) < (x0.length : Int) then (if 0 ≤ (wrap64 (x3 + 1)) then (if (wrap64 (((Ze x0 (wrap64 (x3 + 1))).f0) - x338000)) > 1000 then (some false) else (Zk.l0 k x0 x9 x10 (wrap64 (x11 + 1)))) else (none)) else (Zk.l0 k x0 x9 x10 (wrap64 (x11 + 1)))) else (Zk.l0 k x0 x9 x10 (wrap64 (x11 + 1))))
end
def Zk.f (k : Nat) (l0 : List (S56)) : Option (Bool) := (Z1.f (l0.length : Int) 1 100).bind fun t335 => (if t335 = true then (Zk.l0 k l0 l0 (l0.length : Int) 0) else (some false))
theorem Zk.Xm : ∀ k,(∀ y0 y1 y2 y3,LeO (Zk.l0 k y0 y1 y2 y3) (Zk.l0 (k + 1) y0 y1 y2 y3)) ∧ (∀ y0 y1 y2 y3 y4 y5 y6 y7 y8,LeO (Zk.j1 k y0 y1 y2 y3 y4 y5 y6 y7 y8) (Zk.j1 (k + 1) y0 y1 y2 y3 y4 y5 y6 y7 y8))
 | 0 => ⟨fun _ _ _ _ r h => by simp [Zk.l0] at h,fun _ _ _ _ _ _ _ _ _ r h => by simp [Zk.j1] at h⟩
 | k + 1 => by
  obtain ⟨ih0,ih1⟩ := Zk.Xm k;refine ⟨?_,?_⟩
  · intro y0 y1 y2 y3
    unfold Zk.l0
    repeat' first
    | (with_reducible exact ih0 _ _ _ _)
    | (with_reducible exact ih1 _ _ _ _ _ _ _ _ _)
    | (with_reducible exact LeO.refl _)
    | (with_reducible exact LeO.none _)
    | (with_reducible refine LeO.ite ?_ ?_)
    | (with_reducible refine LeO.bind ?_ (fun _ => ?_))
    | exact ih0 _ _ _ _
    | exact ih1 _ _ _ _ _ _ _ _ _
    | exact LeO.none _
    | refine LeO.ite ?_ ?_
    | refine LeO.bind ?_ (fun _ => ?_)
  · intro y0 y1 y2 y3 y4 y5 y6 y7 y8
    unfold Zk.j1
    repeat' first
    | (with_reducible exact ih0 _ _ _ _)
    | (with_reducible exact ih1 _ _ _ _ _ _ _ _ _)
    | (with_reducible exact LeO.refl _)
    | (with_reducible exact LeO.none _)
    | (with_reducible refine LeO.ite ?_ ?_)
    | (with_reducible refine LeO.bind ?_ (fun _ => ?_))
    | exact ih0 _ _ _ _
    | exact ih1 _ _ _ _ _ _ _ _ _
    | exact LeO.none _
    | refine LeO.ite ?_ ?_
    | refine LeO.bind ?_ (fun _ => ?_)
theorem Zk.mono : ∀ a0 k,LeO (Zk.f k a0) (Zk.f (k + 1) a0) := by
 intro a0 k;obtain ⟨ih0,ih1⟩ := Zk.Xm k;unfold Zk.f
 repeat' first
  | (with_reducible exact ih0 _ _ _ _)
  | (with_reducible exact ih1 _ _ _ _ _ _ _ _ _)
  | (with_reducible exact LeO.refl _)
  | (with_reducible exact LeO.none _)
  | (with_reducible refine LeO.ite ?_ ?_)
  | (with_reducible refine LeO.bind ?_ (fun _ => ?_))
  | exact ih0 _ _ _ _
  | exact ih1 _ _ _ _ _ _ _ _ _
  | exact LeO.none _
  | refine LeO.ite ?_ ?_
  | refine LeO.bind ?_ (fun _ => ?_)
def Zk.T6 : Bool × List (List Nat × List Nat) := (true,[([],[]),([0],[0]),([1],[1]),([2],[2]),([3,2],[3]),([4],[4]),([5,4],[4,5]),([6,4,4],[4,6]),([7,4],[4,7]),([4,8],[4,8]),([9,7],[9]),([10],[10]),([11,10],[10,11]),([12,10,10],[10,12]),([13,10],[10,13]),([10,14],[10,14]),([15,13],[15]),([16],[16]),([17,16],[16,17]),([18,16,16],[16,18]),([19],[19]),([19],[19]),([21,19],[19,21]),([20,22,19],[19,20,22]),([23,19],[19,23]),([24,19],[19,24]),([19],[19]),([26,19],[19,26]),([25,27,19],[19,25,27]),([19,28,16],[16,19,28]),([16,29],[16,29])])
def Zk.B6 : List Nat := [0,1,3,7,15,31,63,127,255,511,1023,2047,4095,8191,16383,32767,65535,131071,262143,524287,1048575,1048575,3145727,8388607,16777215,33554431,1048575,68157439,268435455,536870911,1073741823]
theorem Zk.tab6 : rtab .any (opsOf Try.f36 6) = Zk.T6 := by kernel_rfl
theorem Zk.bits6 : waitsOk Zk.T6.2 Zk.B6 = true := by kernel_rfl
def Zk.T8 : Bool × List (List Nat × List Nat) := (true,[([],[]),([0],[0]),([1],[1]),([2],[2]),([3],[3]),([4,3],[3,4]),([3],[3]),([6,3],[3,6]),([5,7,3],[3,5,7]),([3,8],[3,8]),([9,3],[9]),([10],[10]),([10],[10]),([12,10],[10,12]),([11,13,10],[10,11,13]),([14,10],[10,14]),([15,10],[10,15]),([10],[10]),([17,10],[10,17]),([16,18,10],[10,16,18]),([19,10],[10,19]),([10,20],[10,20])])
def Zk.B8 : List Nat := [0,1,3,7,15,31,15,79,255,511,1023,2047,2047,6143,16383,32767,65535,2047,133119,524287,1048575,2097151]
theorem Zk.tab8 : rtab .any (opsOf Try.f36 8) = Zk.T8 := by kernel_rfl
theorem Zk.bits8 : waitsOk Zk.T8.2 Zk.B8 = true := by kernel_rfl
set_option maxHeartbeats 8000000 in
set_option maxRecDepth 100000 in
theorem Zk.calls (k : Nat) (A0 : Option Addr) (c0 : Nat) (l0 : List (S56)) (r : Bool) (w : World) (hr0 : Kd.C k56 w A0 l0.length l0) (hc0 : l0.length ≤ c0) (h : Zk.f k l0 = some r) :
 Calls Try.prog 36 #[.slice A0 l0.length c0] w fun e w' => e = .returned (.bool r) ∧ Below w.heap.size w w' := by
 have hu56 := Try.underlying56;have HR0 := Zd.mk hr0;have HC0 := Zd.mk hc0;clear hr0 hc0;have HB := Zd.mk (Below.refl w.heap.size w);have H : ((Z1.f (l0.length : Int) 1 100).bind fun t335 => (if t335 = true then (Zk.l0 k l0 l0 (l0.length : Int) 0) else (some false))) = some r := h;clear h;replace H := Option.bind_eq_some_iff.mp H;obtain ⟨t335,A20,H⟩ := H;replace H : (if t335 = true then (Zk.l0 k l0 l0 (l0.length : Int) 0) else (some false)) = some r := H;have A2 := Zd.mk A20;clear A20
 by_cases c3 : t335 = true
 · subst c3
   have H1 : (Zk.l0 k l0 l0 (l0.length : Int) 0) = some r := by rw [if_pos rfl] at H;exact H
   clear H;have H := H1;clear H1;have H' := Zd.mk H;clear H
   go_enter Try.func36,Try.ntmps36
   go_wp2_with (first | ((with_reducible refine Z2 (f := 43) rfl ?_);refine ZP (some 7) rfl rfl Try.func43 (by kernel_rfl) rfl #[.int .i64 (l0.length : Int),.int .i64 1,.int .i64 100] rfl (by (try simp only [List.map_toArray,List.map_cons,List.map_nil]);first | done | rfl | (simp only [List.length_drop,List.length_take];rfl)) ?_;(with_reducible refine (Z1.calls (l0.length : Int) 1 100 true _ A2.out).mono ?_);rintro e w' ⟨rfl,⟨nd,rfl⟩⟩;refine ⟨_,rfl,?_⟩))
   go_loopg [11] k (fun kq v11 w' => ∃ (x11_1 : Int),v11 = .int .i64 x11_1 ∧ Zd (Zk.l0 kq l0 l0 (l0.length : Int) x11_1 = some r) ∧ Zd (kq ≤ k) ∧ Zd (Below w.heap.size w w'))
   case atStart => exact ⟨(0),(by first | rfl | (simp;done) | (simp [*];done)),H',⟨Nat.le_refl _⟩,⟨by repeat (first | (with_reducible first | exact HB.out | apply Zc | apply Za | apply Zb) | exact HB.out)⟩⟩
   case round =>
    clear H'
    (try clear p2); (try clear c3)
    obtain ⟨x11_1,rfl,HA,HK1,HB⟩ := hrel
    cases gk with
    | zero => exact absurd HA.out (by simp [Zk.l0])
    | succ k1 =>
     have H := HA.out;clear HA;simp only [Zk.l0] at H
     by_cases c4 : x11_1 < (l0.length : Int)
     · rw [if_pos c4] at H
       have c4b0 : decide (x11_1 < (l0.length : Int)) = true := decide_eq_true c4;clear c4
       by_cases c5 : 0 ≤ x11_1
       · rw [if_pos c5] at H
         have c5b0 : decide (0 ≤ x11_1) = true := decide_eq_true c5;clear c5
         by_cases c6 : x11_1 < (l0.length : Int)
         · rw [if_pos c6] at H
           have c6b0 : decide (x11_1 < (l0.length : Int)) = true := decide_eq_true c6;clear c6;have HC7 := Zd.mk H;clear H;have p336 : 0 ≤ (x11_1 : Int) := of_decide_eq_true (by first | (with_reducible assumption) | assumption);have q336 : x11_1 < (l0.length : Int) := of_decide_eq_true (by first | (with_reducible assumption) | assumption);obtain ⟨ad336,e336,hx336_0,hx336_1,hx336_2⟩ := Xg HR0.out x11_1 p336 q336
           cases e336
           replace hx336_0 := (HB.out.cell (World.block_lt_of_cell? w _ hx336_0)).trans hx336_0;replace hx336_1 := (HB.out.cell (World.block_lt_of_cell? w _ hx336_1)).trans hx336_1;replace hx336_2 := (HB.out.cell (World.block_lt_of_cell? w _ hx336_2)).trans hx336_2;replace p336 := eq_true p336;replace q336 := eq_true q336
           go_upto_region 6 with (first | ((with_reducible refine Xq (N := 4) rfl ?_);(try (refine XD (by rfl) ?_;dsimp only));refine Xy ?hg (N := 4) ?hd (cs := #[.int .i64 0,.int .i64 0,.int .i64 0]) (t := 56) ?hr ?_;(case hd => rfl);(case hg => rfl);(case hr => first | (go_simp;done) | (go_simp;rfl));intro gb337 hg w8 hbox hb;have n0_ := Zd.mk (Z0 (by repeat (first | (with_reducible first | exact HB.out | apply Zc | apply Za | apply Zb) | exact HB.out)) hb);have n1_ := Zd.mk (hbox);have n2_ := Zd.mk ((by rw [hg];exact (ZJ (by repeat (first | (with_reducible first | exact HB.out | apply Zc | apply Za | apply Zb) | exact HB.out))) : w.heap.size ≤ gb337));have n3_ := Zd.mk ((by rw [hg];exact (ZJ (by repeat (first | (with_reducible first | exact HB.out | apply Zc | apply Za | apply Zb) | exact HB.out))) : w.heap.size ≤ gb337));clear HB;have HB := n0_;have BK337 := n1_;have GW337 := n2_;have GE337 := n3_;clear n0_ n1_ n2_ n3_;clear hb hbox hg;have hcz9_0 : w8.cell? ⟨gb337,0,none⟩ = some (.int .i64 0) := (Zm BK337.out 0).trans rfl;have hcz9_1 : w8.cell? ⟨gb337,1,none⟩ = some (.int .i64 0) := (Zm BK337.out 1).trans rfl;have hcz9_2 : w8.cell? ⟨gb337,2,none⟩ = some (.int .i64 0) := (Zm BK337.out 2).trans rfl;have hfz9_0 := Zr BK337.out 0;have hfz9_1 := Zr BK337.out 1;have hfz9_2 := Zr BK337.out 2))
           (try simp only [Act.put,YV,YW,YX])
           go_cut [46] (fun v46 wc => ∃ (kq : Nat) (x46_6 : Bool),v46 = .bool x46_6 ∧ Zd (Zk.j1 kq l0 x11_1 l0 (l0.length : Int) x11_1 x46_6 ((Ze l0 x11_1).f0) ((Ze l0 x11_1).f1) ((Ze l0 x11_1).f2) = some r) ∧ Zd (kq ≤ k1) ∧ Zd (wc.heap[gb337]? = some (.cells #[.int .i64 ((Ze l0 x11_1).f0),.int .i64 ((Ze l0 x11_1).f1),.int .i64 ((Ze l0 x11_1).f2)] 56 (0,0))) ∧ Zd (Below w.heap.size w wc))
           case first =>
            have H := HC7.out;clear HC7;replace H := Option.bind_eq_some_iff.mp H;obtain ⟨t338,A100,H⟩ := H;replace H : (if t338 = true then ((Z1.f ((Ze l0 x11_1).f1) (-8388607) 8388607).bind fun t339 => (if t339 = true then ((Z1.f ((Ze l0 x11_1).f2) 0 2).bind fun t340 => (if t340 = true then (if x11_1 > 0 then (if 0 ≤ (wrap64 (x11_1 - 1)) then (if (wrap64 (x11_1 - 1)) < (l0.length : Int) then (Zk.j1 k1 l0 x11_1 l0 (l0.length : Int) x11_1 (decide (((Ze l0 (wrap64 (x11_1 - 1))).f0) ≥ ((Ze l0 x11_1).f0))) ((Ze l0 x11_1).f0) ((Ze l0 x11_1).f1) ((Ze l0 x11_1).f2)) else (none)) else (none)) else (Zk.j1 k1 l0 x11_1 l0 (l0.length : Int) x11_1 false ((Ze l0 x11_1).f0) ((Ze l0 x11_1).f1) ((Ze l0 x11_1).f2))) else (Zk.j1 k1 l0 x11_1 l0 (l0.length : Int) x11_1 true ((Ze l0 x11_1).f0) ((Ze l0 x11_1).f1) ((Ze l0 x11_1).f2)))) else (Zk.j1 k1 l0 x11_1 l0 (l0.length : Int) x11_1 true ((Ze l0 x11_1).f0) ((Ze l0 x11_1).f1) ((Ze l0 x11_1).f2)))) else (Zk.j1 k1 l0 x11_1 l0 (l0.length : Int) x11_1 true ((Ze l0 x11_1).f0) ((Ze l0 x11_1).f1) ((Ze l0 x11_1).f2))) = some r := H;have A10 := Zd.mk A100;clear A100
            by_cases c11 : t338 = true
            · subst c11
              have H1 : ((Z1.f ((Ze l0 x11_1).f1) (-8388607) 8388607).bind fun t339 => (if t339 = true then ((Z1.f ((Ze l0 x11_1).f2) 0 2).bind fun t340 => (if t340 = true then (if x11_1 > 0 then (if 0 ≤ (wrap64 (x11_1 - 1)) then (if (wrap64 (x11_1 - 1)) < (l0.length : Int) then (Zk.j1 k1 l0 x11_1 l0 (l0.length : Int) x11_1 (decide (((Ze l0 (wrap64 (x11_1 - 1))).f0) ≥ ((Ze l0 x11_1).f0))) ((Ze l0 x11_1).f0) ((Ze l0 x11_1).f1) ((Ze l0 x11_1).f2)) else (none)) else (none)) else (Zk.j1 k1 l0 x11_1 l0 (l0.length : Int) x11_1 false ((Ze l0 x11_1).f0) ((Ze l0 x11_1).f1) ((Ze l0 x11_1).f2))) else (Zk.j1 k1 l0 x11_1 l0 (l0.length : Int) x11_1 true ((Ze l0 x11_1).f0) ((Ze l0 x11_1).f1) ((Ze l0 x11_1).f2)))) else (Zk.j1 k1 l0 x11_1 l0 (l0.length : Int) x11_1 true ((Ze l0 x11_1).f0) ((Ze l0 x11_1).f1) ((Ze l0 x11_1).f2)))) = some r := by rw [if_pos rfl] at H;exact H
              clear H;have H := H1;clear H1;replace H := Option.bind_eq_some_iff.mp H;obtain ⟨t339,A120,H⟩ := H;replace H : (if t339 = true then ((Z1.f ((Ze l0 x11_1).f2) 0 2).bind fun t340 => (if t340 = true then (if x11_1 > 0 then (if 0 ≤ (wrap64 (x11_1 - 1)) then (if (wrap64 (x11_1 - 1)) < (l0.length : Int) then (Zk.j1 k1 l0 x11_1 l0 (l0.length : Int) x11_1 (decide (((Ze l0 (wrap64 (x11_1 - 1))).f0) ≥ ((Ze l0 x11_1).f0))) ((Ze l0 x11_1).f0) ((Ze l0 x11_1).f1) ((Ze l0 x11_1).f2)) else (none)) else (none)) else (Zk.j1 k1 l0 x11_1 l0 (l0.length : Int) x11_1 false ((Ze l0 x11_1).f0) ((Ze l0 x11_1).f1) ((Ze l0 x11_1).f2))) else (Zk.j1 k1 l0 x11_1 l0 (l0.length : Int) x11_1 true ((Ze l0 x11_1).f0) ((Ze l0 x11_1).f1) ((Ze l0 x11_1).f2)))) else (Zk.j1 k1 l0 x11_1 l0 (l0.length : Int) x11_1 true ((Ze l0 x11_1).f0) ((Ze l0 x11_1).f1) ((Ze l0 x11_1).f2))) = some r := H;have A12 := Zd.mk A120;clear A120
              by_cases c13 : t339 = true
              · subst c13
                have H1 : ((Z1.f ((Ze l0 x11_1).f2) 0 2).bind fun t340 => (if t340 = true then (if x11_1 > 0 then (if 0 ≤ (wrap64 (x11_1 - 1)) then (if (wrap64 (x11_1 - 1)) < (l0.length : Int) then (Zk.j1 k1 l0 x11_1 l0 (l0.length : Int) x11_1 (decide (((Ze l0 (wrap64 (x11_1 - 1))).f0) ≥ ((Ze l0 x11_1).f0))) ((Ze l0 x11_1).f0) ((Ze l0 x11_1).f1) ((Ze l0 x11_1).f2)) else (none)) else (none)) else (Zk.j1 k1 l0 x11_1 l0 (l0.length : Int) x11_1 false ((Ze l0 x11_1).f0) ((Ze l0 x11_1).f1) ((Ze l0 x11_1).f2))) else (Zk.j1 k1 l0 x11_1 l0 (l0.length : Int) x11_1 true ((Ze l0 x11_1).f0) ((Ze l0 x11_1).f1) ((Ze l0 x11_1).f2)))) = some r := by rw [if_pos rfl] at H;exact H
                clear H;have H := H1;clear H1;replace H := Option.bind_eq_some_iff.mp H;obtain ⟨t340,A140,H⟩ := H;replace H : (if t340 = true then (if x11_1 > 0 then (if 0 ≤ (wrap64 (x11_1 - 1)) then (if (wrap64 (x11_1 - 1)) < (l0.length : Int) then (Zk.j1 k1 l0 x11_1 l0 (l0.length : Int) x11_1 (decide (((Ze l0 (wrap64 (x11_1 - 1))).f0) ≥ ((Ze l0 x11_1).f0))) ((Ze l0 x11_1).f0) ((Ze l0 x11_1).f1) ((Ze l0 x11_1).f2)) else (none)) else (none)) else (Zk.j1 k1 l0 x11_1 l0 (l0.length : Int) x11_1 false ((Ze l0 x11_1).f0) ((Ze l0 x11_1).f1) ((Ze l0 x11_1).f2))) else (Zk.j1 k1 l0 x11_1 l0 (l0.length : Int) x11_1 true ((Ze l0 x11_1).f0) ((Ze l0 x11_1).f1) ((Ze l0 x11_1).f2))) = some r := H;have A14 := Zd.mk A140;clear A140
                by_cases c15 : t340 = true
                · subst c15
                  have H1 : (if x11_1 > 0 then (if 0 ≤ (wrap64 (x11_1 - 1)) then (if (wrap64 (x11_1 - 1)) < (l0.length : Int) then (Zk.j1 k1 l0 x11_1 l0 (l0.length : Int) x11_1 (decide (((Ze l0 (wrap64 (x11_1 - 1))).f0) ≥ ((Ze l0 x11_1).f0))) ((Ze l0 x11_1).f0) ((Ze l0 x11_1).f1) ((Ze l0 x11_1).f2)) else (none)) else (none)) else (Zk.j1 k1 l0 x11_1 l0 (l0.length : Int) x11_1 false ((Ze l0 x11_1).f0) ((Ze l0 x11_1).f1) ((Ze l0 x11_1).f2))) = some r := by rw [if_pos rfl] at H;exact H
                  clear H;have H := H1;clear H1
                  by_cases c16 : x11_1 > 0
                  · rw [if_pos c16] at H
                    have c16b0 : decide (0 < x11_1) = true := decide_eq_true c16;clear c16
                    (first | rw [c16b0] | (simp only [i64_w,i32_w];rw [c16b0]) | skip)
                    obtain ⟨ji17,hji17⟩ : ∃ j_ : Int,(wrap64 (x11_1 - 1)) = j_ := ⟨_,rfl⟩
                    replace H : (if 0 ≤ (ji17) then (if (ji17) < (l0.length : Int) then (Zk.j1 k1 l0 x11_1 l0 (l0.length : Int) x11_1 (decide (((Ze l0 (ji17)).f0) ≥ ((Ze l0 x11_1).f0))) ((Ze l0 x11_1).f0) ((Ze l0 x11_1).f1) ((Ze l0 x11_1).f2)) else (none)) else (none)) = some r := by first | (rw [hji17] at H;exact H) | (simp only [hji17] at H ⊢;exact H)
                    (try rw [hji17] at A10)
                    (try rw [hji17] at A12)
                    (try rw [hji17] at A14)
                    have hji17w : (IntKind.i64.wrap (x11_1 - 1)) = ji17 := (i64_w _).trans hji17
                    by_cases c18 : 0 ≤ (ji17)
                    · rw [if_pos c18] at H
                      have c18b0 : decide (0 ≤ (ji17)) = true := decide_eq_true c18;clear c18
                      by_cases c19 : (ji17) < (l0.length : Int)
                      · rw [if_pos c19] at H
                        have c19b0 : decide ((ji17) < (l0.length : Int)) = true := decide_eq_true c19;clear c19;have H' := Zd.mk H;clear H
                        try go_wp2
                        have n0_ : Zd ((((w8.setCell ⟨gb337,0,none⟩ (.int .i64 ((Ze l0 x11_1).f0))).setCell ⟨gb337,1,none⟩ (.int .i64 ((Ze l0 x11_1).f1))).setCell ⟨gb337,2,none⟩ (.int .i64 ((Ze l0 x11_1).f2))).heap[gb337]? = some (.cells #[.int .i64 ((Ze l0 x11_1).f0),.int .i64 ((Ze l0 x11_1).f1),.int .i64 ((Ze l0 x11_1).f2)] 56 (0,0))) := ⟨by (with_reducible repeat (first | refine Zu ?_ _ | refine Zw ?_ | refine Zs ?_ _));refine ZE (cs := #[.int .i64 ((Ze l0 x11_1).f0),.int .i64 ((Ze l0 x11_1).f1),.int .i64 0]) ?_ 2 _ rfl;(with_reducible repeat (first | refine Zu ?_ _ | refine Zw ?_ | refine Zs ?_ _));refine ZE (cs := #[.int .i64 ((Ze l0 x11_1).f0),.int .i64 0,.int .i64 0]) ?_ 1 _ rfl;(with_reducible repeat (first | refine Zu ?_ _ | refine Zw ?_ | refine Zs ?_ _));refine ZE (cs := #[.int .i64 0,.int .i64 0,.int .i64 0]) ?_ 0 _ rfl;(with_reducible repeat (first | refine Zu ?_ _ | refine Zw ?_ | refine Zs ?_ _));exact BK337.out⟩
                        have n1_ : Zd (Below w.heap.size w (((w8.setCell ⟨gb337,0,none⟩ (.int .i64 ((Ze l0 x11_1).f0))).setCell ⟨gb337,1,none⟩ (.int .i64 ((Ze l0 x11_1).f1))).setCell ⟨gb337,2,none⟩ (.int .i64 ((Ze l0 x11_1).f2)))) := ⟨by repeat (first | (with_reducible first | exact HB.out | apply Zc | apply Za | apply Zb | refine Z9 ?_ GE337.out) | exact HB.out)⟩
                        (try clear BK337)
                        (try clear HB)
                        generalize (((w8.setCell ⟨gb337,0,none⟩ (.int .i64 ((Ze l0 x11_1).f0))).setCell ⟨gb337,1,none⟩ (.int .i64 ((Ze l0 x11_1).f1))).setCell ⟨gb337,2,none⟩ (.int .i64 ((Ze l0 x11_1).f2))) = w20 at n0_ n1_ ⊢;have BK337 := n0_;have HB := n1_;clear n0_ n1_;have n0_ := Zd.mk (Zw BK337.out);have n1_ := Zd.mk (Zb HB.out);clear BK337;clear HB;have BK337 := n0_;have HB := n1_;clear n0_ n1_;have p341 : 0 ≤ ((ji17) : Int) := of_decide_eq_true (by first | (with_reducible assumption) | assumption);have q341 : (ji17) < (l0.length : Int) := of_decide_eq_true (by first | (with_reducible assumption) | assumption);obtain ⟨ad341,e341,hx341_0,hx341_1,hx341_2⟩ := Xg HR0.out (ji17) p341 q341;have hw341_2 := hx341_2;have hw341_1 := hx341_1;have hw341_0 := hx341_0
                        obtain rfl : ad336 = ad341 := (by injection e341)
                        replace hx341_0 := (HB.out.cell (World.block_lt_of_cell? w _ hx341_0)).trans hx341_0;replace hx341_1 := (HB.out.cell (World.block_lt_of_cell? w _ hx341_1)).trans hx341_1;replace hx341_2 := (HB.out.cell (World.block_lt_of_cell? w _ hx341_2)).trans hx341_2;replace p341 := eq_true p341;replace q341 := eq_true q341;refine XE (n := 31) (S := fun w' => w'.cell? ⟨gb337,0,none⟩ = some (.int .i64 ((Ze l0 x11_1).f0)) ∧ w'.cell? ⟨gb337,1,none⟩ = some (.int .i64 ((Ze l0 x11_1).f1)) ∧ w'.cell? ⟨gb337,2,none⟩ = some (.int .i64 ((Ze l0 x11_1).f2)) ∧ w'.cell? (ad336.add (((ji17)).toNat * 3)) = some (.int .i64 ((Ze l0 (ji17)).f0)) ∧ w'.cell? ⟨(ad336.add (((ji17)).toNat * 3)).block,(ad336.add (((ji17)).toNat * 3)).off + 1,none⟩ = some (.int .i64 ((Ze l0 (ji17)).f1)) ∧ w'.cell? ⟨(ad336.add (((ji17)).toNat * 3)).block,(ad336.add (((ji17)).toNat * 3)).off + 2,none⟩ = some (.int .i64 ((Ze l0 (ji17)).f2))) (ds := []) #[U,U,U,U,U,U,U,U,U,U,U,U,U,U,U,U,U,U,U,U,U,U,U,U,U,U,U,U,U,U,U] (by kernel_rfl) rfl rfl ⟨(Zm BK337.out 0).trans rfl,(Zm BK337.out 1).trans rfl,(Zm BK337.out 2).trans rfl,((HB.out.cell (World.block_lt_of_cell? w _ hw341_0)).trans hw341_0),((HB.out.cell (World.block_lt_of_cell? w _ hw341_1)).trans hw341_1),((HB.out.cell (World.block_lt_of_cell? w _ hw341_2)).trans hw341_2)⟩ (fun hHeld => ?_);refine X2 Zk.tab6 Zk.bits6 (fun HT_ HW_ => ?_);generalize w20.drew = w21 at BK337 HB hx341_0 hx341_1 hx341_2 hHeld ⊢;refine pure_ (i := 0) (N := some 16) (v := ?_) (a' := ?_) #[Y,U,U,U,U,U,U,U,U,U,U,U,U,U,U,U,U,U,U,U,U,U,U,U,U,U,U,U,U,U,U] rfl rfl (Zn HT_.out (by kernel_rfl)) (fun _ _ _ h => h) (Or.inl ⟨by rfl,?_⟩) ?_ ?_;rotate_left
                        · intro w'
                          go_simp;with_reducible rfl
                        rotate_left
                        · simp only [Act.put,YV,YW,YX,i64_w,i32_w]
                          rfl
                        refine take_ (i := 1) (N := some 17) (v := ?_) (a' := ?_) #[Y,Y,U,U,U,U,U,U,U,U,U,U,U,U,U,U,U,U,U,U,U,U,U,U,U,U,U,U,U,U,U] rfl rfl (Xh HT_.out HW_.out (by kernel_rfl)) (fun _ _ _ h => h) (Or.inl ⟨by rfl,?_⟩) hHeld ?_ ?_;rotate_left
                        · rintro w' ⟨s0,s1,s2,s3,s4,s5⟩
                          go_simp;with_reducible rfl
                        rotate_left
                        · simp only [Act.put,YV,YW,YX,i64_w,i32_w]
                          rfl
                        refine one_ (i := 2) (N := some 18) #[Y,Y,Y,U,U,U,U,U,U,U,U,U,U,U,U,U,U,U,U,U,U,U,U,U,U,U,U,U,U,U,U] rfl rfl (X7 HT_.out (by kernel_rfl)) (by decide) (fun K hK => ?_);refine goes_ Try.func43 (by kernel_rfl) rfl #[.int .i64 ((Ze l0 x11_1).f0),.int .i64 0,.int .i64 1000000000] (by rfl) rfl rfl (by (try simp only [List.map_toArray,List.map_cons,List.map_nil]);first | done | rfl | (simp only [List.length_drop,List.length_take];rfl)) ?_
                        with_reducible refine (Z1.calls ((Ze l0 x11_1).f0) 0 1000000000 true _ A10.out).mono ?_
                        rintro e w' ⟨rfl,⟨nd,rfl⟩⟩;refine ⟨_,rfl,?_⟩;refine hK.out _ _ ⟨(Zm BK337.out 0).trans rfl,(Zm BK337.out 1).trans rfl,(Zm BK337.out 2).trans rfl,((HB.out.cell (World.block_lt_of_cell? w _ hw341_0)).trans hw341_0),((HB.out.cell (World.block_lt_of_cell? w _ hw341_1)).trans hw341_1),((HB.out.cell (World.block_lt_of_cell? w _ hw341_2)).trans hw341_2)⟩ (fun hHeld => ?_);clear hK K;refine norm_ (a' := ?_) ?_ ?_;rotate_left
                        · show Act.put _ (some 18) _ = _
                          simp only [Act.put,YV,YW,YX,i64_w,i32_w];rfl
                        refine pure_ (i := 3) (N := some 19) (v := ?_) (a' := ?_) #[Y,Y,Y,Y,U,U,U,U,U,U,U,U,U,U,U,U,U,U,U,U,U,U,U,U,U,U,U,U,U,U,U] rfl rfl (Zn HT_.out (by kernel_rfl)) (fun _ _ _ h => h) (Or.inl ⟨by rfl,?_⟩) ?_ ?_;rotate_left
                        · intro w'
                          go_simp;with_reducible rfl
                        rotate_left
                        · simp only [Act.put,YV,YW,YX,i64_w,i32_w]
                          rfl
                        refine pure_ (i := 4) (N := some 20) (v := ?_) (a' := ?_) #[Y,Y,Y,Y,Y,U,U,U,U,U,U,U,U,U,U,U,U,U,U,U,U,U,U,U,U,U,U,U,U,U,U] rfl rfl (Zn HT_.out (by kernel_rfl)) (fun _ _ _ h => h) (Or.inl ⟨by rfl,?_⟩) ?_ ?_;rotate_left
                        · intro w'
                          go_simp;with_reducible rfl
                        rotate_left
                        · simp only [Act.put,YV,YW,YX,i64_w,i32_w]
                          rfl
                        refine pure_ (i := 5) (N := some 21) (v := ?_) (a' := ?_) #[Y,Y,Y,Y,Y,Y,U,U,U,U,U,U,U,U,U,U,U,U,U,U,U,U,U,U,U,U,U,U,U,U,U] rfl rfl (Zn HT_.out (by kernel_rfl)) (fun _ _ _ h => h) (Or.inl ⟨by rfl,?_⟩) ?_ ?_;rotate_left
                        · intro w'
                          go_simp;with_reducible rfl
                        rotate_left
                        · simp only [Act.put,YV,YW,YX,i64_w,i32_w]
                          rfl
                        refine take_ (i := 6) (N := some 22) (v := ?_) (a' := ?_) #[Y,Y,Y,Y,Y,Y,Y,U,U,U,U,U,U,U,U,U,U,U,U,U,U,U,U,U,U,U,U,U,U,U,U] rfl rfl (Xh HT_.out HW_.out (by kernel_rfl)) (fun _ _ _ h => h) (Or.inl ⟨by rfl,?_⟩) hHeld ?_ ?_;rotate_left
                        · rintro w' ⟨s0,s1,s2,s3,s4,s5⟩
                          go_simp;with_reducible rfl
                        rotate_left
                        · simp only [Act.put,YV,YW,YX,i64_w,i32_w]
                          rfl
                        refine one_ (i := 7) (N := some 23) #[Y,Y,Y,Y,Y,Y,Y,Y,U,U,U,U,U,U,U,U,U,U,U,U,U,U,U,U,U,U,U,U,U,U,U] rfl rfl (X7 HT_.out (by kernel_rfl)) (by decide) (fun K hK => ?_);refine goes_ Try.func43 (by kernel_rfl) rfl #[.int .i64 ((Ze l0 x11_1).f1),.int .i64 (-8388607),.int .i64 8388607] (by rfl) rfl rfl (by (try simp only [List.map_toArray,List.map_cons,List.map_nil]);first | done | rfl | (simp only [List.length_drop,List.length_take];rfl)) ?_
                        with_reducible refine (Z1.calls ((Ze l0 x11_1).f1) (-8388607) 8388607 true _ A12.out).mono ?_
                        rintro e w' ⟨rfl,⟨nd,rfl⟩⟩;refine ⟨_,rfl,?_⟩;refine hK.out _ _ ⟨(Zm BK337.out 0).trans rfl,(Zm BK337.out 1).trans rfl,(Zm BK337.out 2).trans rfl,((HB.out.cell (World.block_lt_of_cell? w _ hw341_0)).trans hw341_0),((HB.out.cell (World.block_lt_of_cell? w _ hw341_1)).trans hw341_1),((HB.out.cell (World.block_lt_of_cell? w _ hw341_2)).trans hw341_2)⟩ (fun hHeld => ?_);clear hK K;refine norm_ (a' := ?_) ?_ ?_;rotate_left
                        · show Act.put _ (some 23) _ = _
                          simp only [Act.put,YV,YW,YX,i64_w,i32_w];rfl
                        refine pure_ (i := 8) (N := some 24) (v := ?_) (a' := ?_) #[Y,Y,Y,Y,Y,Y,Y,Y,Y,U,U,U,U,U,U,U,U,U,U,U,U,U,U,U,U,U,U,U,U,U,U] rfl rfl (Zn HT_.out (by kernel_rfl)) (fun _ _ _ h => h) (Or.inl ⟨by rfl,?_⟩) ?_ ?_;rotate_left
                        · intro w'
                          go_simp;with_reducible rfl
                        rotate_left
                        · simp only [Act.put,YV,YW,YX,i64_w,i32_w]
                          rfl
                        refine pure_ (i := 9) (N := some 25) (v := ?_) (a' := ?_) #[Y,Y,Y,Y,Y,Y,Y,Y,Y,Y,U,U,U,U,U,U,U,U,U,U,U,U,U,U,U,U,U,U,U,U,U] rfl rfl (Zn HT_.out (by kernel_rfl)) (fun _ _ _ h => h) (Or.inl ⟨by rfl,?_⟩) ?_ ?_;rotate_left
                        · intro w'
                          go_simp;with_reducible rfl
                        rotate_left
                        · simp only [Act.put,YV,YW,YX,i64_w,i32_w]
                          rfl
                        refine pure_ (i := 10) (N := some 26) (v := ?_) (a' := ?_) #[Y,Y,Y,Y,Y,Y,Y,Y,Y,Y,Y,U,U,U,U,U,U,U,U,U,U,U,U,U,U,U,U,U,U,U,U] rfl rfl (Zn HT_.out (by kernel_rfl)) (fun _ _ _ h => h) (Or.inl ⟨by rfl,?_⟩) ?_ ?_;rotate_left
                        · intro w'
                          go_simp;with_reducible rfl
                        rotate_left
                        · simp only [Act.put,YV,YW,YX,i64_w,i32_w]
                          rfl
                        refine pure_ (i := 11) (N := some 27) (v := ?_) (a' := ?_) #[Y,Y,Y,Y,Y,Y,Y,Y,Y,Y,Y,Y,U,U,U,U,U,U,U,U,U,U,U,U,U,U,U,U,U,U,U] rfl rfl (Zn HT_.out (by kernel_rfl)) (fun _ _ _ h => h) (Or.inl ⟨by rfl,?_⟩) ?_ ?_;rotate_left
                        · intro w'
                          go_simp;with_reducible rfl
                        rotate_left
                        · simp only [Act.put,YV,YW,YX,i64_w,i32_w]
                          rfl
                        refine take_ (i := 12) (N := some 28) (v := ?_) (a' := ?_) #[Y,Y,Y,Y,Y,Y,Y,Y,Y,Y,Y,Y,Y,U,U,U,U,U,U,U,U,U,U,U,U,U,U,U,U,U,U] rfl rfl (Xh HT_.out HW_.out (by kernel_rfl)) (fun _ _ _ h => h) (Or.inl ⟨by rfl,?_⟩) hHeld ?_ ?_;rotate_left
                        · rintro w' ⟨s0,s1,s2,s3,s4,s5⟩
                          go_simp;with_reducible rfl
                        rotate_left
                        · simp only [Act.put,YV,YW,YX,i64_w,i32_w]
                          rfl
                        refine one_ (i := 13) (N := some 29) #[Y,Y,Y,Y,Y,Y,Y,Y,Y,Y,Y,Y,Y,Y,U,U,U,U,U,U,U,U,U,U,U,U,U,U,U,U,U] rfl rfl (X7 HT_.out (by kernel_rfl)) (by decide) (fun K hK => ?_);refine goes_ Try.func43 (by kernel_rfl) rfl #[.int .i64 ((Ze l0 x11_1).f2),.int .i64 0,.int .i64 2] (by rfl) rfl rfl (by (try simp only [List.map_toArray,List.map_cons,List.map_nil]);first | done | rfl | (simp only [List.length_drop,List.length_take];rfl)) ?_
                        with_reducible refine (Z1.calls ((Ze l0 x11_1).f2) 0 2 true _ A14.out).mono ?_
                        rintro e w' ⟨rfl,⟨nd,rfl⟩⟩;refine ⟨_,rfl,?_⟩;refine hK.out _ _ ⟨(Zm BK337.out 0).trans rfl,(Zm BK337.out 1).trans rfl,(Zm BK337.out 2).trans rfl,((HB.out.cell (World.block_lt_of_cell? w _ hw341_0)).trans hw341_0),((HB.out.cell (World.block_lt_of_cell? w _ hw341_1)).trans hw341_1),((HB.out.cell (World.block_lt_of_cell? w _ hw341_2)).trans hw341_2)⟩ (fun hHeld => ?_);clear hK K;refine norm_ (a' := ?_) ?_ ?_;rotate_left
                        · show Act.put _ (some 29) _ = _
                          simp only [Act.put,YV,YW,YX,i64_w,i32_w];rfl
                        refine pure_ (i := 14) (N := some 30) (v := ?_) (a' := ?_) #[Y,Y,Y,Y,Y,Y,Y,Y,Y,Y,Y,Y,Y,Y,Y,U,U,U,U,U,U,U,U,U,U,U,U,U,U,U,U] rfl rfl (Zn HT_.out (by kernel_rfl)) (fun _ _ _ h => h) (Or.inl ⟨by rfl,?_⟩) ?_ ?_;rotate_left
                        · intro w'
                          go_simp;with_reducible rfl
                        rotate_left
                        · simp only [Act.put,YV,YW,YX,i64_w,i32_w]
                          rfl
                        refine pure_ (i := 15) (N := some 31) (v := ?_) (a' := ?_) #[Y,Y,Y,Y,Y,Y,Y,Y,Y,Y,Y,Y,Y,Y,Y,Y,U,U,U,U,U,U,U,U,U,U,U,U,U,U,U] rfl rfl (Zn HT_.out (by kernel_rfl)) (fun _ _ _ h => h) (Or.inl ⟨by rfl,?_⟩) ?_ ?_;rotate_left
                        · intro w'
                          go_simp;with_reducible rfl
                        rotate_left
                        · simp only [Act.put,YV,YW,YX,i64_w,i32_w]
                          rfl
                        refine pure_ (i := 16) (N := some 32) (v := ?_) (a' := ?_) #[Y,Y,Y,Y,Y,Y,Y,Y,Y,Y,Y,Y,Y,Y,Y,Y,Y,U,U,U,U,U,U,U,U,U,U,U,U,U,U] rfl rfl (Zn HT_.out (by kernel_rfl)) (fun _ _ _ h => h) (Or.inl ⟨by rfl,?_⟩) ?_ ?_;rotate_left
                        · intro w'
                          go_simp;with_reducible rfl
                        rotate_left
                        · simp only [Act.put,YV,YW,YX,i64_w,i32_w]
                          rfl
                        refine pure_ (i := 17) (N := some 33) (v := ?_) (a' := ?_) #[Y,Y,Y,Y,Y,Y,Y,Y,Y,Y,Y,Y,Y,Y,Y,Y,Y,Y,U,U,U,U,U,U,U,U,U,U,U,U,U] rfl rfl (Zn HT_.out (by kernel_rfl)) (fun _ _ _ h => h) (Or.inl ⟨by rfl,?_⟩) ?_ ?_;rotate_left
                        · intro w'
                          go_simp;with_reducible rfl
                        rotate_left
                        · simp only [Act.put,YV,YW,YX,i64_w,i32_w]
                          rfl
                        refine pure_ (i := 18) (N := some 34) (v := ?_) (a' := ?_) #[Y,Y,Y,Y,Y,Y,Y,Y,Y,Y,Y,Y,Y,Y,Y,Y,Y,Y,Y,U,U,U,U,U,U,U,U,U,U,U,U] rfl rfl (Zn HT_.out (by kernel_rfl)) (fun _ _ _ h => h) (Or.inl ⟨by rfl,?_⟩) ?_ ?_;rotate_left
                        · intro w'
                          go_simp;with_reducible rfl
                        rotate_left
                        · simp only [Act.put,YV,YW,YX,i64_w,i32_w]
                          rfl
                        refine pure_ (i := 19) (N := some 35) (v := ?_) (a' := ?_) #[Y,Y,Y,Y,Y,Y,Y,Y,Y,Y,Y,Y,Y,Y,Y,Y,Y,Y,Y,Y,U,U,U,U,U,U,U,U,U,U,U] rfl rfl (Zn HT_.out (by kernel_rfl)) (fun _ _ _ h => h) (Or.inl ⟨by rfl,?_⟩) ?_ ?_;rotate_left
                        · intro w'
                          go_simp;with_reducible rfl
                        rotate_left
                        · simp only [Act.put,YV,YW,YX,i64_w,i32_w]
                          rfl
                        refine pure_ (i := 20) (N := some 36) (v := ?_) (a' := ?_) #[Y,Y,Y,Y,Y,Y,Y,Y,Y,Y,Y,Y,Y,Y,Y,Y,Y,Y,Y,Y,Y,U,U,U,U,U,U,U,U,U,U] rfl rfl (Zn HT_.out (by kernel_rfl)) (fun _ _ _ h => h) (Or.inl ⟨by rfl,?_⟩) ?_ ?_;rotate_left
                        · intro w'
                          go_simp;with_reducible rfl
                        rotate_left
                        · simp only [Act.put,YV,YW,YX,i64_w,i32_w]
                          rfl
                        refine pure_ (i := 21) (N := some 37) (v := ?_) (a' := ?_) #[Y,Y,Y,Y,Y,Y,Y,Y,Y,Y,Y,Y,Y,Y,Y,Y,Y,Y,Y,Y,Y,Y,U,U,U,U,U,U,U,U,U] rfl rfl (Zn HT_.out (by kernel_rfl)) (fun _ _ _ h => h) (Or.inl ⟨by rfl,?_⟩) ?_ ?_;rotate_left
                        · intro w'
                          go_simp;with_reducible rfl
                        rotate_left
                        · simp only [Act.put,YV,YW,YX,i64_w,i32_w]
                          rfl
                        refine pure_ (i := 22) (N := some 38) (v := ?_) (a' := ?_) #[Y,Y,Y,Y,Y,Y,Y,Y,Y,Y,Y,Y,Y,Y,Y,Y,Y,Y,Y,Y,Y,Y,Y,U,U,U,U,U,U,U,U] rfl rfl (Zn HT_.out (by kernel_rfl)) (fun _ _ _ h => h) (Or.inl ⟨by rfl,?_⟩) ?_ ?_;rotate_left
                        · intro w'
                          go_simp;with_reducible rfl
                        rotate_left
                        · simp only [Act.put,YV,YW,YX,i64_w,i32_w]
                          rfl
                        refine pure_ (i := 23) (N := some 39) (v := ?_) (a' := ?_) #[Y,Y,Y,Y,Y,Y,Y,Y,Y,Y,Y,Y,Y,Y,Y,Y,Y,Y,Y,Y,Y,Y,Y,Y,U,U,U,U,U,U,U] rfl rfl (Zn HT_.out (by kernel_rfl)) (fun _ _ _ h => h) (Or.inl ⟨by rfl,?_⟩) ?_ ?_;rotate_left
                        · intro w'
                          go_simp;with_reducible rfl
                        rotate_left
                        · simp only [Act.put,YV,YW,YX,i64_w,i32_w]
                          rfl
                        refine pure_ (i := 24) (N := some 40) (v := ?_) (a' := ?_) #[Y,Y,Y,Y,Y,Y,Y,Y,Y,Y,Y,Y,Y,Y,Y,Y,Y,Y,Y,Y,Y,Y,Y,Y,Y,U,U,U,U,U,U] rfl rfl (Zn HT_.out (by kernel_rfl)) (fun _ _ _ h => h) (Or.inl ⟨by rfl,?_⟩) ?_ ?_;rotate_left
                        · intro w'
                          go_simp;with_reducible rfl
                        rotate_left
                        · simp only [Act.put,YV,YW,YX,i64_w,i32_w]
                          rfl
                        refine pure_ (i := 26) (N := some 42) (v := ?_) (a' := ?_) #[Y,Y,Y,Y,Y,Y,Y,Y,Y,Y,Y,Y,Y,Y,Y,Y,Y,Y,Y,Y,Y,Y,Y,Y,Y,U,Y,U,U,U,U] rfl rfl (Zn HT_.out (by kernel_rfl)) (fun _ _ _ h => h) (Or.inl ⟨by rfl,?_⟩) ?_ ?_;rotate_left
                        · intro w'
                          go_simp;with_reducible rfl
                        rotate_left
                        · simp only [Act.put,YV,YW,YX,i64_w,i32_w]
                          rfl
                        refine take_ (i := 25) (N := some 41) (v := ?_) (a' := ?_) #[Y,Y,Y,Y,Y,Y,Y,Y,Y,Y,Y,Y,Y,Y,Y,Y,Y,Y,Y,Y,Y,Y,Y,Y,Y,Y,Y,U,U,U,U] rfl rfl (Xh HT_.out HW_.out (by kernel_rfl)) (fun _ _ _ h => h) (Or.inl ⟨by rfl,?_⟩) hHeld ?_ ?_;rotate_left
                        · rintro w' ⟨s0,s1,s2,s3,s4,s5⟩
                          go_simp;with_reducible rfl
                        rotate_left
                        · simp only [Act.put,YV,YW,YX,i64_w,i32_w]
                          rfl
                        refine take_ (i := 27) (N := some 43) (v := ?_) (a' := ?_) #[Y,Y,Y,Y,Y,Y,Y,Y,Y,Y,Y,Y,Y,Y,Y,Y,Y,Y,Y,Y,Y,Y,Y,Y,Y,Y,Y,Y,U,U,U] rfl rfl (Xh HT_.out HW_.out (by kernel_rfl)) (fun _ _ _ h => h) (Or.inl ⟨by rfl,?_⟩) hHeld ?_ ?_;rotate_left
                        · rintro w' ⟨s0,s1,s2,s3,s4,s5⟩
                          go_simp;with_reducible rfl
                        rotate_left
                        · simp only [Act.put,YV,YW,YX,i64_w,i32_w]
                          rfl
                        refine pure_ (i := 28) (N := some 44) (v := ?_) (a' := ?_) #[Y,Y,Y,Y,Y,Y,Y,Y,Y,Y,Y,Y,Y,Y,Y,Y,Y,Y,Y,Y,Y,Y,Y,Y,Y,Y,Y,Y,Y,U,U] rfl rfl (Zn HT_.out (by kernel_rfl)) (fun _ _ _ h => h) (Or.inl ⟨by rfl,?_⟩) ?_ ?_;rotate_left
                        · intro w'
                          go_simp;with_reducible rfl
                        rotate_left
                        · simp only [Act.put,YV,YW,YX,i64_w,i32_w]
                          rfl
                        refine pure_ (i := 29) (N := some 45) (v := ?_) (a' := ?_) #[Y,Y,Y,Y,Y,Y,Y,Y,Y,Y,Y,Y,Y,Y,Y,Y,Y,Y,Y,Y,Y,Y,Y,Y,Y,Y,Y,Y,Y,Y,U] rfl rfl (Zn HT_.out (by kernel_rfl)) (fun _ _ _ h => h) (Or.inl ⟨by rfl,?_⟩) ?_ ?_;rotate_left
                        · intro w'
                          go_simp;with_reducible rfl
                        rotate_left
                        · simp only [Act.put,YV,YW,YX,i64_w,i32_w]
                          rfl
                        refine pure_ (i := 30) (N := some 46) (v := ?_) (a' := ?_) #[Y,Y,Y,Y,Y,Y,Y,Y,Y,Y,Y,Y,Y,Y,Y,Y,Y,Y,Y,Y,Y,Y,Y,Y,Y,Y,Y,Y,Y,Y,Y] rfl rfl (Zn HT_.out (by kernel_rfl)) (fun _ _ _ h => h) (Or.inl ⟨by rfl,?_⟩) ?_ ?_;rotate_left
                        · intro w'
                          go_simp;with_reducible rfl
                        rotate_left
                        · simp only [Act.put,YV,YW,YX,i64_w,i32_w]
                          rfl
                        refine done_ (XA HT_.out (by kernel_rfl)) ?_
                        try go_wp2
                        go_meet
                        case rel => exact ⟨_,(decide (((Ze l0 (ji17)).f0) ≥ ((Ze l0 x11_1).f0))),(by first | rfl | (simp;done) | (simp only [← hji17] <;> (first | rfl | simp)) | (simp [*];done)),H',⟨by have := HK1.out;first | omega | exact Nat.le_refl _⟩,⟨by (with_reducible repeat (first | refine Zu ?_ _ | refine Zw ?_ | refine Zs ?_ _));exact BK337.out⟩,⟨by repeat (first | (with_reducible first | exact HB.out | apply Zc | apply Za | apply Zb | refine Z9 ?_ GE337.out) | exact HB.out)⟩⟩
                      · rw [if_neg c19] at H
                        exact absurd H (by simp)
                    · rw [if_neg c18] at H
                      exact absurd H (by simp)
                  · rw [if_neg c16] at H
                    have c16b0 : decide (0 < x11_1) = false := decide_eq_false c16;clear c16
                    (first | rw [c16b0] | (simp only [i64_w,i32_w];rw [c16b0]) | skip)
                    have H' := Zd.mk H;clear H
                    try go_wp2
                    have n0_ : Zd ((((w8.setCell ⟨gb337,0,none⟩ (.int .i64 ((Ze l0 x11_1).f0))).setCell ⟨gb337,1,none⟩ (.int .i64 ((Ze l0 x11_1).f1))).setCell ⟨gb337,2,none⟩ (.int .i64 ((Ze l0 x11_1).f2))).heap[gb337]? = some (.cells #[.int .i64 ((Ze l0 x11_1).f0),.int .i64 ((Ze l0 x11_1).f1),.int .i64 ((Ze l0 x11_1).f2)] 56 (0,0))) := ⟨by (with_reducible repeat (first | refine Zu ?_ _ | refine Zw ?_ | refine Zs ?_ _));refine ZE (cs := #[.int .i64 ((Ze l0 x11_1).f0),.int .i64 ((Ze l0 x11_1).f1),.int .i64 0]) ?_ 2 _ rfl;(with_reducible repeat (first | refine Zu ?_ _ | refine Zw ?_ | refine Zs ?_ _));refine ZE (cs := #[.int .i64 ((Ze l0 x11_1).f0),.int .i64 0,.int .i64 0]) ?_ 1 _ rfl;(with_reducible repeat (first | refine Zu ?_ _ | refine Zw ?_ | refine Zs ?_ _));refine ZE (cs := #[.int .i64 0,.int .i64 0,.int .i64 0]) ?_ 0 _ rfl;(with_reducible repeat (first | refine Zu ?_ _ | refine Zw ?_ | refine Zs ?_ _));exact BK337.out⟩
                    have n1_ : Zd (Below w.heap.size w (((w8.setCell ⟨gb337,0,none⟩ (.int .i64 ((Ze l0 x11_1).f0))).setCell ⟨gb337,1,none⟩ (.int .i64 ((Ze l0 x11_1).f1))).setCell ⟨gb337,2,none⟩ (.int .i64 ((Ze l0 x11_1).f2)))) := ⟨by repeat (first | (with_reducible first | exact HB.out | apply Zc | apply Za | apply Zb | refine Z9 ?_ GE337.out) | exact HB.out)⟩
                    (try clear BK337)
                    (try clear HB)
                    generalize (((w8.setCell ⟨gb337,0,none⟩ (.int .i64 ((Ze l0 x11_1).f0))).setCell ⟨gb337,1,none⟩ (.int .i64 ((Ze l0 x11_1).f1))).setCell ⟨gb337,2,none⟩ (.int .i64 ((Ze l0 x11_1).f2))) = w22 at n0_ n1_ ⊢;have BK337 := n0_;have HB := n1_;clear n0_ n1_;have n0_ := Zd.mk (Zw BK337.out);have n1_ := Zd.mk (Zb HB.out);clear BK337;clear HB;have BK337 := n0_;have HB := n1_;clear n0_ n1_;refine XE (n := 31) (S := fun w' => w'.cell? ⟨gb337,0,none⟩ = some (.int .i64 ((Ze l0 x11_1).f0)) ∧ w'.cell? ⟨gb337,1,none⟩ = some (.int .i64 ((Ze l0 x11_1).f1)) ∧ w'.cell? ⟨gb337,2,none⟩ = some (.int .i64 ((Ze l0 x11_1).f2))) (ds := []) #[U,U,U,U,U,U,U,U,U,U,U,U,U,U,U,U,U,U,U,U,U,U,U,U,U,U,U,U,U,U,U] (by kernel_rfl) rfl rfl ⟨(Zm BK337.out 0).trans rfl,(Zm BK337.out 1).trans rfl,(Zm BK337.out 2).trans rfl⟩ (fun hHeld => ?_);refine X2 Zk.tab6 Zk.bits6 (fun HT_ HW_ => ?_);generalize w22.drew = w23 at BK337 HB hHeld ⊢;refine pure_ (i := 0) (N := some 16) (v := ?_) (a' := ?_) #[Y,U,U,U,U,U,U,U,U,U,U,U,U,U,U,U,U,U,U,U,U,U,U,U,U,U,U,U,U,U,U] rfl rfl (Zn HT_.out (by kernel_rfl)) (fun _ _ _ h => h) (Or.inl ⟨by rfl,?_⟩) ?_ ?_;rotate_left
                    · intro w'
                      go_simp;with_reducible rfl
                    rotate_left
                    · simp only [Act.put,YV,YW,YX,i64_w,i32_w]
                      rfl
                    refine take_ (i := 1) (N := some 17) (v := ?_) (a' := ?_) #[Y,Y,U,U,U,U,U,U,U,U,U,U,U,U,U,U,U,U,U,U,U,U,U,U,U,U,U,U,U,U,U] rfl rfl (Xh HT_.out HW_.out (by kernel_rfl)) (fun _ _ _ h => h) (Or.inl ⟨by rfl,?_⟩) hHeld ?_ ?_;rotate_left
                    · rintro w' ⟨s0,s1,s2⟩
                      go_simp;with_reducible rfl
                    rotate_left
                    · simp only [Act.put,YV,YW,YX,i64_w,i32_w]
                      rfl
                    refine one_ (i := 2) (N := some 18) #[Y,Y,Y,U,U,U,U,U,U,U,U,U,U,U,U,U,U,U,U,U,U,U,U,U,U,U,U,U,U,U,U] rfl rfl (X7 HT_.out (by kernel_rfl)) (by decide) (fun K hK => ?_);refine goes_ Try.func43 (by kernel_rfl) rfl #[.int .i64 ((Ze l0 x11_1).f0),.int .i64 0,.int .i64 1000000000] (by rfl) rfl rfl (by (try simp only [List.map_toArray,List.map_cons,List.map_nil]);first | done | rfl | (simp only [List.length_drop,List.length_take];rfl)) ?_
                    with_reducible refine (Z1.calls ((Ze l0 x11_1).f0) 0 1000000000 true _ A10.out).mono ?_
                    rintro e w' ⟨rfl,⟨nd,rfl⟩⟩;refine ⟨_,rfl,?_⟩;refine hK.out _ _ ⟨(Zm BK337.out 0).trans rfl,(Zm BK337.out 1).trans rfl,(Zm BK337.out 2).trans rfl⟩ (fun hHeld => ?_);clear hK K;refine norm_ (a' := ?_) ?_ ?_;rotate_left
                    · show Act.put _ (some 18) _ = _
                      simp only [Act.put,YV,YW,YX,i64_w,i32_w];rfl
                    refine pure_ (i := 3) (N := some 19) (v := ?_) (a' := ?_) #[Y,Y,Y,Y,U,U,U,U,U,U,U,U,U,U,U,U,U,U,U,U,U,U,U,U,U,U,U,U,U,U,U] rfl rfl (Zn HT_.out (by kernel_rfl)) (fun _ _ _ h => h) (Or.inl ⟨by rfl,?_⟩) ?_ ?_;rotate_left
                    · intro w'
                      go_simp;with_reducible rfl
                    rotate_left
                    · simp only [Act.put,YV,YW,YX,i64_w,i32_w]
                      rfl
                    refine pure_ (i := 4) (N := some 20) (v := ?_) (a' := ?_) #[Y,Y,Y,Y,Y,U,U,U,U,U,U,U,U,U,U,U,U,U,U,U,U,U,U,U,U,U,U,U,U,U,U] rfl rfl (Zn HT_.out (by kernel_rfl)) (fun _ _ _ h => h) (Or.inl ⟨by rfl,?_⟩) ?_ ?_;rotate_left
                    · intro w'
                      go_simp;with_reducible rfl
                    rotate_left
                    · simp only [Act.put,YV,YW,YX,i64_w,i32_w]
                      rfl
                    refine pure_ (i := 5) (N := some 21) (v := ?_) (a' := ?_) #[Y,Y,Y,Y,Y,Y,U,U,U,U,U,U,U,U,U,U,U,U,U,U,U,U,U,U,U,U,U,U,U,U,U] rfl rfl (Zn HT_.out (by kernel_rfl)) (fun _ _ _ h => h) (Or.inl ⟨by rfl,?_⟩) ?_ ?_;rotate_left
                    · intro w'
                      go_simp;with_reducible rfl
                    rotate_left
                    · simp only [Act.put,YV,YW,YX,i64_w,i32_w]
                      rfl
                    refine take_ (i := 6) (N := some 22) (v := ?_) (a' := ?_) #[Y,Y,Y,Y,Y,Y,Y,U,U,U,U,U,U,U,U,U,U,U,U,U,U,U,U,U,U,U,U,U,U,U,U] rfl rfl (Xh HT_.out HW_.out (by kernel_rfl)) (fun _ _ _ h => h) (Or.inl ⟨by rfl,?_⟩) hHeld ?_ ?_;rotate_left
                    · rintro w' ⟨s0,s1,s2⟩
                      go_simp;with_reducible rfl
                    rotate_left
                    · simp only [Act.put,YV,YW,YX,i64_w,i32_w]
                      rfl
                    refine one_ (i := 7) (N := some 23) #[Y,Y,Y,Y,Y,Y,Y,Y,U,U,U,U,U,U,U,U,U,U,U,U,U,U,U,U,U,U,U,U,U,U,U] rfl rfl (X7 HT_.out (by kernel_rfl)) (by decide) (fun K hK => ?_);refine goes_ Try.func43 (by kernel_rfl) rfl #[.int .i64 ((Ze l0 x11_1).f1),.int .i64 (-8388607),.int .i64 8388607] (by rfl) rfl rfl (by (try simp only [List.map_toArray,List.map_cons,List.map_nil]);first | done | rfl | (simp only [List.length_drop,List.length_take];rfl)) ?_
                    with_reducible refine (Z1.calls ((Ze l0 x11_1).f1) (-8388607) 8388607 true _ A12.out).mono ?_
                    rintro e w' ⟨rfl,⟨nd,rfl⟩⟩;refine ⟨_,rfl,?_⟩;refine hK.out _ _ ⟨(Zm BK337.out 0).trans rfl,(Zm BK337.out 1).trans rfl,(Zm BK337.out 2).trans rfl⟩ (fun hHeld => ?_);clear hK K;refine norm_ (a' := ?_) ?_ ?_;rotate_left
                    · show Act.put _ (some 23) _ = _
                      simp only [Act.put,YV,YW,YX,i64_w,i32_w];rfl
                    refine pure_ (i := 8) (N := some 24) (v := ?_) (a' := ?_) #[Y,Y,Y,Y,Y,Y,Y,Y,Y,U,U,U,U,U,U,U,U,U,U,U,U,U,U,U,U,U,U,U,U,U,U] rfl rfl (Zn HT_.out (by kernel_rfl)) (fun _ _ _ h => h) (Or.inl ⟨by rfl,?_⟩) ?_ ?_;rotate_left
                    · intro w'
                      go_simp;with_reducible rfl
                    rotate_left
                    · simp only [Act.put,YV,YW,YX,i64_w,i32_w]
                      rfl
                    refine pure_ (i := 9) (N := some 25) (v := ?_) (a' := ?_) #[Y,Y,Y,Y,Y,Y,Y,Y,Y,Y,U,U,U,U,U,U,U,U,U,U,U,U,U,U,U,U,U,U,U,U,U] rfl rfl (Zn HT_.out (by kernel_rfl)) (fun _ _ _ h => h) (Or.inl ⟨by rfl,?_⟩) ?_ ?_;rotate_left
                    · intro w'
                      go_simp;with_reducible rfl
                    rotate_left
                    · simp only [Act.put,YV,YW,YX,i64_w,i32_w]
                      rfl
                    refine pure_ (i := 10) (N := some 26) (v := ?_) (a' := ?_) #[Y,Y,Y,Y,Y,Y,Y,Y,Y,Y,Y,U,U,U,U,U,U,U,U,U,U,U,U,U,U,U,U,U,U,U,U] rfl rfl (Zn HT_.out (by kernel_rfl)) (fun _ _ _ h => h) (Or.inl ⟨by rfl,?_⟩) ?_ ?_;rotate_left
                    · intro w'
                      go_simp;with_reducible rfl
                    rotate_left
                    · simp only [Act.put,YV,YW,YX,i64_w,i32_w]
                      rfl
                    refine pure_ (i := 11) (N := some 27) (v := ?_) (a' := ?_) #[Y,Y,Y,Y,Y,Y,Y,Y,Y,Y,Y,Y,U,U,U,U,U,U,U,U,U,U,U,U,U,U,U,U,U,U,U] rfl rfl (Zn HT_.out (by kernel_rfl)) (fun _ _ _ h => h) (Or.inl ⟨by rfl,?_⟩) ?_ ?_;rotate_left
                    · intro w'
                      go_simp;with_reducible rfl
                    rotate_left
                    · simp only [Act.put,YV,YW,YX,i64_w,i32_w]
                      rfl
                    refine take_ (i := 12) (N := some 28) (v := ?_) (a' := ?_) #[Y,Y,Y,Y,Y,Y,Y,Y,Y,Y,Y,Y,Y,U,U,U,U,U,U,U,U,U,U,U,U,U,U,U,U,U,U] rfl rfl (Xh HT_.out HW_.out (by kernel_rfl)) (fun _ _ _ h => h) (Or.inl ⟨by rfl,?_⟩) hHeld ?_ ?_;rotate_left
                    · rintro w' ⟨s0,s1,s2⟩
                      go_simp;with_reducible rfl
                    rotate_left
                    · simp only [Act.put,YV,YW,YX,i64_w,i32_w]
                      rfl
                    refine one_ (i := 13) (N := some 29) #[Y,Y,Y,Y,Y,Y,Y,Y,Y,Y,Y,Y,Y,Y,U,U,U,U,U,U,U,U,U,U,U,U,U,U,U,U,U] rfl rfl (X7 HT_.out (by kernel_rfl)) (by decide) (fun K hK => ?_);refine goes_ Try.func43 (by kernel_rfl) rfl #[.int .i64 ((Ze l0 x11_1).f2),.int .i64 0,.int .i64 2] (by rfl) rfl rfl (by (try simp only [List.map_toArray,List.map_cons,List.map_nil]);first | done | rfl | (simp only [List.length_drop,List.length_take];rfl)) ?_
                    with_reducible refine (Z1.calls ((Ze l0 x11_1).f2) 0 2 true _ A14.out).mono ?_
                    rintro e w' ⟨rfl,⟨nd,rfl⟩⟩;refine ⟨_,rfl,?_⟩;refine hK.out _ _ ⟨(Zm BK337.out 0).trans rfl,(Zm BK337.out 1).trans rfl,(Zm BK337.out 2).trans rfl⟩ (fun hHeld => ?_);clear hK K;refine norm_ (a' := ?_) ?_ ?_;rotate_left
                    · show Act.put _ (some 29) _ = _
                      simp only [Act.put,YV,YW,YX,i64_w,i32_w];rfl
                    refine pure_ (i := 14) (N := some 30) (v := ?_) (a' := ?_) #[Y,Y,Y,Y,Y,Y,Y,Y,Y,Y,Y,Y,Y,Y,Y,U,U,U,U,U,U,U,U,U,U,U,U,U,U,U,U] rfl rfl (Zn HT_.out (by kernel_rfl)) (fun _ _ _ h => h) (Or.inl ⟨by rfl,?_⟩) ?_ ?_;rotate_left
                    · intro w'
                      go_simp;with_reducible rfl
                    rotate_left
                    · simp only [Act.put,YV,YW,YX,i64_w,i32_w]
                      rfl
                    refine pure_ (i := 15) (N := some 31) (v := ?_) (a' := ?_) #[Y,Y,Y,Y,Y,Y,Y,Y,Y,Y,Y,Y,Y,Y,Y,Y,U,U,U,U,U,U,U,U,U,U,U,U,U,U,U] rfl rfl (Zn HT_.out (by kernel_rfl)) (fun _ _ _ h => h) (Or.inl ⟨by rfl,?_⟩) ?_ ?_;rotate_left
                    · intro w'
                      go_simp;with_reducible rfl
                    rotate_left
                    · simp only [Act.put,YV,YW,YX,i64_w,i32_w]
                      rfl
                    refine pure_ (i := 16) (N := some 32) (v := ?_) (a' := ?_) #[Y,Y,Y,Y,Y,Y,Y,Y,Y,Y,Y,Y,Y,Y,Y,Y,Y,U,U,U,U,U,U,U,U,U,U,U,U,U,U] rfl rfl (Zn HT_.out (by kernel_rfl)) (fun _ _ _ h => h) (Or.inl ⟨by rfl,?_⟩) ?_ ?_;rotate_left
                    · intro w'
                      go_simp;with_reducible rfl
                    rotate_left
                    · simp only [Act.put,YV,YW,YX,i64_w,i32_w]
                      rfl
                    refine pure_ (i := 17) (N := some 33) (v := ?_) (a' := ?_) #[Y,Y,Y,Y,Y,Y,Y,Y,Y,Y,Y,Y,Y,Y,Y,Y,Y,Y,U,U,U,U,U,U,U,U,U,U,U,U,U] rfl rfl (Zn HT_.out (by kernel_rfl)) (fun _ _ _ h => h) (Or.inl ⟨by rfl,?_⟩) ?_ ?_;rotate_left
                    · intro w'
                      go_simp;with_reducible rfl
                    rotate_left
                    · simp only [Act.put,YV,YW,YX,i64_w,i32_w]
                      rfl
                    refine pure_ (i := 18) (N := some 34) (v := ?_) (a' := ?_) #[Y,Y,Y,Y,Y,Y,Y,Y,Y,Y,Y,Y,Y,Y,Y,Y,Y,Y,Y,U,U,U,U,U,U,U,U,U,U,U,U] rfl rfl (Zn HT_.out (by kernel_rfl)) (fun _ _ _ h => h) (Or.inl ⟨by rfl,?_⟩) ?_ ?_;rotate_left
                    · intro w'
                      go_simp;with_reducible rfl
                    rotate_left
                    · simp only [Act.put,YV,YW,YX,i64_w,i32_w]
                      rfl
                    refine pure_ (i := 19) (N := some 35) (v := ?_) (a' := ?_) #[Y,Y,Y,Y,Y,Y,Y,Y,Y,Y,Y,Y,Y,Y,Y,Y,Y,Y,Y,Y,U,U,U,U,U,U,U,U,U,U,U] rfl rfl (Zn HT_.out (by kernel_rfl)) (fun _ _ _ h => h) (Or.inl ⟨by rfl,?_⟩) ?_ ?_;rotate_left
                    · intro w'
                      go_simp;with_reducible rfl
                    rotate_left
                    · simp only [Act.put,YV,YW,YX,i64_w,i32_w]
                      rfl
                    refine pure_ (i := 20) (N := some 36) (v := undef) (a' := ?_) #[Y,Y,Y,Y,Y,Y,Y,Y,Y,Y,Y,Y,Y,Y,Y,Y,Y,Y,Y,Y,Y,U,U,U,U,U,U,U,U,U,U] rfl rfl (Zn HT_.out (by kernel_rfl)) (fun _ _ _ h => h) (Or.inr ⟨by rfl,rfl⟩) ?_ ?_;rotate_left
                    · simp only [Act.put,YV,YW,YX,i64_w,i32_w]
                      rfl
                    refine pure_ (i := 21) (N := some 37) (v := undef) (a' := ?_) #[Y,Y,Y,Y,Y,Y,Y,Y,Y,Y,Y,Y,Y,Y,Y,Y,Y,Y,Y,Y,Y,Y,U,U,U,U,U,U,U,U,U] rfl rfl (Zn HT_.out (by kernel_rfl)) (fun _ _ _ h => h) (Or.inr ⟨by rfl,rfl⟩) ?_ ?_;rotate_left
                    · simp only [Act.put,YV,YW,YX,i64_w,i32_w]
                      rfl
                    refine pure_ (i := 22) (N := some 38) (v := undef) (a' := ?_) #[Y,Y,Y,Y,Y,Y,Y,Y,Y,Y,Y,Y,Y,Y,Y,Y,Y,Y,Y,Y,Y,Y,Y,U,U,U,U,U,U,U,U] rfl rfl (Zn HT_.out (by kernel_rfl)) (fun _ _ _ h => h) (Or.inr ⟨by rfl,rfl⟩) ?_ ?_;rotate_left
                    · simp only [Act.put,YV,YW,YX,i64_w,i32_w]
                      rfl
                    refine pure_ (i := 23) (N := some 39) (v := undef) (a' := ?_) #[Y,Y,Y,Y,Y,Y,Y,Y,Y,Y,Y,Y,Y,Y,Y,Y,Y,Y,Y,Y,Y,Y,Y,Y,U,U,U,U,U,U,U] rfl rfl (Zn HT_.out (by kernel_rfl)) (fun _ _ _ h => h) (Or.inr ⟨by rfl,rfl⟩) ?_ ?_;rotate_left
                    · simp only [Act.put,YV,YW,YX,i64_w,i32_w]
                      rfl
                    refine pure_ (i := 24) (N := some 40) (v := undef) (a' := ?_) #[Y,Y,Y,Y,Y,Y,Y,Y,Y,Y,Y,Y,Y,Y,Y,Y,Y,Y,Y,Y,Y,Y,Y,Y,Y,U,U,U,U,U,U] rfl rfl (Zn HT_.out (by kernel_rfl)) (fun _ _ _ h => h) (Or.inr ⟨by rfl,rfl⟩) ?_ ?_;rotate_left
                    · simp only [Act.put,YV,YW,YX,i64_w,i32_w]
                      rfl
                    refine pure_ (i := 25) (N := some 41) (v := undef) (a' := ?_) #[Y,Y,Y,Y,Y,Y,Y,Y,Y,Y,Y,Y,Y,Y,Y,Y,Y,Y,Y,Y,Y,Y,Y,Y,Y,Y,U,U,U,U,U] rfl rfl (Zn HT_.out (by kernel_rfl)) (fun _ _ _ h => h) (Or.inr ⟨by rfl,rfl⟩) ?_ ?_;rotate_left
                    · simp only [Act.put,YV,YW,YX,i64_w,i32_w]
                      rfl
                    refine pure_ (i := 26) (N := some 42) (v := undef) (a' := ?_) #[Y,Y,Y,Y,Y,Y,Y,Y,Y,Y,Y,Y,Y,Y,Y,Y,Y,Y,Y,Y,Y,Y,Y,Y,Y,Y,Y,U,U,U,U] rfl rfl (Zn HT_.out (by kernel_rfl)) (fun _ _ _ h => h) (Or.inr ⟨by rfl,rfl⟩) ?_ ?_;rotate_left
                    · simp only [Act.put,YV,YW,YX,i64_w,i32_w]
                      rfl
                    refine pure_ (i := 27) (N := some 43) (v := undef) (a' := ?_) #[Y,Y,Y,Y,Y,Y,Y,Y,Y,Y,Y,Y,Y,Y,Y,Y,Y,Y,Y,Y,Y,Y,Y,Y,Y,Y,Y,Y,U,U,U] rfl rfl (Zn HT_.out (by kernel_rfl)) (fun _ _ _ h => h) (Or.inr ⟨by rfl,rfl⟩) ?_ ?_;rotate_left
                    · simp only [Act.put,YV,YW,YX,i64_w,i32_w]
                      rfl
                    refine pure_ (i := 28) (N := some 44) (v := undef) (a' := ?_) #[Y,Y,Y,Y,Y,Y,Y,Y,Y,Y,Y,Y,Y,Y,Y,Y,Y,Y,Y,Y,Y,Y,Y,Y,Y,Y,Y,Y,Y,U,U] rfl rfl (Zn HT_.out (by kernel_rfl)) (fun _ _ _ h => h) (Or.inr ⟨by rfl,rfl⟩) ?_ ?_;rotate_left
                    · simp only [Act.put,YV,YW,YX,i64_w,i32_w]
                      rfl
                    refine pure_ (i := 29) (N := some 45) (v := ?_) (a' := ?_) #[Y,Y,Y,Y,Y,Y,Y,Y,Y,Y,Y,Y,Y,Y,Y,Y,Y,Y,Y,Y,Y,Y,Y,Y,Y,Y,Y,Y,Y,Y,U] rfl rfl (Zn HT_.out (by kernel_rfl)) (fun _ _ _ h => h) (Or.inl ⟨by rfl,?_⟩) ?_ ?_;rotate_left
                    · intro w'
                      go_simp;with_reducible rfl
                    rotate_left
                    · simp only [Act.put,YV,YW,YX,i64_w,i32_w]
                      rfl
                    refine pure_ (i := 30) (N := some 46) (v := ?_) (a' := ?_) #[Y,Y,Y,Y,Y,Y,Y,Y,Y,Y,Y,Y,Y,Y,Y,Y,Y,Y,Y,Y,Y,Y,Y,Y,Y,Y,Y,Y,Y,Y,Y] rfl rfl (Zn HT_.out (by kernel_rfl)) (fun _ _ _ h => h) (Or.inl ⟨by rfl,?_⟩) ?_ ?_;rotate_left
                    · intro w'
                      go_simp;with_reducible rfl
                    rotate_left
                    · simp only [Act.put,YV,YW,YX,i64_w,i32_w]
                      rfl
                    refine done_ (XA HT_.out (by kernel_rfl)) ?_
                    try go_wp2
                    go_meet
                    case rel => exact ⟨_,(false),(by first | rfl | (simp;done) | (simp [*];done)),H',⟨by have := HK1.out;first | omega | exact Nat.le_refl _⟩,⟨by (with_reducible repeat (first | refine Zu ?_ _ | refine Zw ?_ | refine Zs ?_ _));exact BK337.out⟩,⟨by repeat (first | (with_reducible first | exact HB.out | apply Zc | apply Za | apply Zb | refine Z9 ?_ GE337.out) | exact HB.out)⟩⟩
                · replace c15 := Bool.eq_false_iff.mpr c15
                  subst c15
                  have H1 : (Zk.j1 k1 l0 x11_1 l0 (l0.length : Int) x11_1 true ((Ze l0 x11_1).f0) ((Ze l0 x11_1).f1) ((Ze l0 x11_1).f2)) = some r := by rw [if_neg (show ¬ (false = true) by decide)] at H;exact H
                  clear H;have H := H1;clear H1;have H' := Zd.mk H;clear H
                  try go_wp2
                  have n0_ : Zd ((((w8.setCell ⟨gb337,0,none⟩ (.int .i64 ((Ze l0 x11_1).f0))).setCell ⟨gb337,1,none⟩ (.int .i64 ((Ze l0 x11_1).f1))).setCell ⟨gb337,2,none⟩ (.int .i64 ((Ze l0 x11_1).f2))).heap[gb337]? = some (.cells #[.int .i64 ((Ze l0 x11_1).f0),.int .i64 ((Ze l0 x11_1).f1),.int .i64 ((Ze l0 x11_1).f2)] 56 (0,0))) := ⟨by (with_reducible repeat (first | refine Zu ?_ _ | refine Zw ?_ | refine Zs ?_ _));refine ZE (cs := #[.int .i64 ((Ze l0 x11_1).f0),.int .i64 ((Ze l0 x11_1).f1),.int .i64 0]) ?_ 2 _ rfl;(with_reducible repeat (first | refine Zu ?_ _ | refine Zw ?_ | refine Zs ?_ _));refine ZE (cs := #[.int .i64 ((Ze l0 x11_1).f0),.int .i64 0,.int .i64 0]) ?_ 1 _ rfl;(with_reducible repeat (first | refine Zu ?_ _ | refine Zw ?_ | refine Zs ?_ _));refine ZE (cs := #[.int .i64 0,.int .i64 0,.int .i64 0]) ?_ 0 _ rfl;(with_reducible repeat (first | refine Zu ?_ _ | refine Zw ?_ | refine Zs ?_ _));exact BK337.out⟩
                  have n1_ : Zd (Below w.heap.size w (((w8.setCell ⟨gb337,0,none⟩ (.int .i64 ((Ze l0 x11_1).f0))).setCell ⟨gb337,1,none⟩ (.int .i64 ((Ze l0 x11_1).f1))).setCell ⟨gb337,2,none⟩ (.int .i64 ((Ze l0 x11_1).f2)))) := ⟨by repeat (first | (with_reducible first | exact HB.out | apply Zc | apply Za | apply Zb | refine Z9 ?_ GE337.out) | exact HB.out)⟩
                  (try clear BK337)
                  (try clear HB)
                  generalize (((w8.setCell ⟨gb337,0,none⟩ (.int .i64 ((Ze l0 x11_1).f0))).setCell ⟨gb337,1,none⟩ (.int .i64 ((Ze l0 x11_1).f1))).setCell ⟨gb337,2,none⟩ (.int .i64 ((Ze l0 x11_1).f2))) = w24 at n0_ n1_ ⊢;have BK337 := n0_;have HB := n1_;clear n0_ n1_;have n0_ := Zd.mk (Zw BK337.out);have n1_ := Zd.mk (Zb HB.out);clear BK337;clear HB;have BK337 := n0_;have HB := n1_;clear n0_ n1_;refine XE (n := 31) (S := fun w' => w'.cell? ⟨gb337,0,none⟩ = some (.int .i64 ((Ze l0 x11_1).f0)) ∧ w'.cell? ⟨gb337,1,none⟩ = some (.int .i64 ((Ze l0 x11_1).f1)) ∧ w'.cell? ⟨gb337,2,none⟩ = some (.int .i64 ((Ze l0 x11_1).f2))) (ds := []) #[U,U,U,U,U,U,U,U,U,U,U,U,U,U,U,U,U,U,U,U,U,U,U,U,U,U,U,U,U,U,U] (by kernel_rfl) rfl rfl ⟨(Zm BK337.out 0).trans rfl,(Zm BK337.out 1).trans rfl,(Zm BK337.out 2).trans rfl⟩ (fun hHeld => ?_);refine X2 Zk.tab6 Zk.bits6 (fun HT_ HW_ => ?_);generalize w24.drew = w25 at BK337 HB hHeld ⊢;refine pure_ (i := 0) (N := some 16) (v := ?_) (a' := ?_) #[Y,U,U,U,U,U,U,U,U,U,U,U,U,U,U,U,U,U,U,U,U,U,U,U,U,U,U,U,U,U,U] rfl rfl (Zn HT_.out (by kernel_rfl)) (fun _ _ _ h => h) (Or.inl ⟨by rfl,?_⟩) ?_ ?_;rotate_left
                  · intro w'
                    go_simp;with_reducible rfl
                  rotate_left
                  · simp only [Act.put,YV,YW,YX,i64_w,i32_w]
                    rfl
                  refine take_ (i := 1) (N := some 17) (v := ?_) (a' := ?_) #[Y,Y,U,U,U,U,U,U,U,U,U,U,U,U,U,U,U,U,U,U,U,U,U,U,U,U,U,U,U,U,U] rfl rfl (Xh HT_.out HW_.out (by kernel_rfl)) (fun _ _ _ h => h) (Or.inl ⟨by rfl,?_⟩) hHeld ?_ ?_;rotate_left
                  · rintro w' ⟨s0,s1,s2⟩
                    go_simp;with_reducible rfl
                  rotate_left
                  · simp only [Act.put,YV,YW,YX,i64_w,i32_w]
                    rfl
                  refine one_ (i := 2) (N := some 18) #[Y,Y,Y,U,U,U,U,U,U,U,U,U,U,U,U,U,U,U,U,U,U,U,U,U,U,U,U,U,U,U,U] rfl rfl (X7 HT_.out (by kernel_rfl)) (by decide) (fun K hK => ?_);refine goes_ Try.func43 (by kernel_rfl) rfl #[.int .i64 ((Ze l0 x11_1).f0),.int .i64 0,.int .i64 1000000000] (by rfl) rfl rfl (by (try simp only [List.map_toArray,List.map_cons,List.map_nil]);first | done | rfl | (simp only [List.length_drop,List.length_take];rfl)) ?_
                  with_reducible refine (Z1.calls ((Ze l0 x11_1).f0) 0 1000000000 true _ A10.out).mono ?_
                  rintro e w' ⟨rfl,⟨nd,rfl⟩⟩;refine ⟨_,rfl,?_⟩;refine hK.out _ _ ⟨(Zm BK337.out 0).trans rfl,(Zm BK337.out 1).trans rfl,(Zm BK337.out 2).trans rfl⟩ (fun hHeld => ?_);clear hK K;refine norm_ (a' := ?_) ?_ ?_;rotate_left
                  · show Act.put _ (some 18) _ = _
                    simp only [Act.put,YV,YW,YX,i64_w,i32_w];rfl
                  refine pure_ (i := 3) (N := some 19) (v := ?_) (a' := ?_) #[Y,Y,Y,Y,U,U,U,U,U,U,U,U,U,U,U,U,U,U,U,U,U,U,U,U,U,U,U,U,U,U,U] rfl rfl (Zn HT_.out (by kernel_rfl)) (fun _ _ _ h => h) (Or.inl ⟨by rfl,?_⟩) ?_ ?_;rotate_left
                  · intro w'
                    go_simp;with_reducible rfl
                  rotate_left
                  · simp only [Act.put,YV,YW,YX,i64_w,i32_w]
                    rfl
                  refine pure_ (i := 4) (N := some 20) (v := ?_) (a' := ?_) #[Y,Y,Y,Y,Y,U,U,U,U,U,U,U,U,U,U,U,U,U,U,U,U,U,U,U,U,U,U,U,U,U,U] rfl rfl (Zn HT_.out (by kernel_rfl)) (fun _ _ _ h => h) (Or.inl ⟨by rfl,?_⟩) ?_ ?_;rotate_left
                  · intro w'
                    go_simp;with_reducible rfl
                  rotate_left
                  · simp only [Act.put,YV,YW,YX,i64_w,i32_w]
                    rfl
                  refine pure_ (i := 5) (N := some 21) (v := ?_) (a' := ?_) #[Y,Y,Y,Y,Y,Y,U,U,U,U,U,U,U,U,U,U,U,U,U,U,U,U,U,U,U,U,U,U,U,U,U] rfl rfl (Zn HT_.out (by kernel_rfl)) (fun _ _ _ h => h) (Or.inl ⟨by rfl,?_⟩) ?_ ?_;rotate_left
                  · intro w'
                    go_simp;with_reducible rfl
                  rotate_left
                  · simp only [Act.put,YV,YW,YX,i64_w,i32_w]
                    rfl
                  refine take_ (i := 6) (N := some 22) (v := ?_) (a' := ?_) #[Y,Y,Y,Y,Y,Y,Y,U,U,U,U,U,U,U,U,U,U,U,U,U,U,U,U,U,U,U,U,U,U,U,U] rfl rfl (Xh HT_.out HW_.out (by kernel_rfl)) (fun _ _ _ h => h) (Or.inl ⟨by rfl,?_⟩) hHeld ?_ ?_;rotate_left
                  · rintro w' ⟨s0,s1,s2⟩
                    go_simp;with_reducible rfl
                  rotate_left
                  · simp only [Act.put,YV,YW,YX,i64_w,i32_w]
                    rfl
                  refine one_ (i := 7) (N := some 23) #[Y,Y,Y,Y,Y,Y,Y,Y,U,U,U,U,U,U,U,U,U,U,U,U,U,U,U,U,U,U,U,U,U,U,U] rfl rfl (X7 HT_.out (by kernel_rfl)) (by decide) (fun K hK => ?_);refine goes_ Try.func43 (by kernel_rfl) rfl #[.int .i64 ((Ze l0 x11_1).f1),.int .i64 (-8388607),.int .i64 8388607] (by rfl) rfl rfl (by (try simp only [List.map_toArray,List.map_cons,List.map_nil]);first | done | rfl | (simp only [List.length_drop,List.length_take];rfl)) ?_
                  with_reducible refine (Z1.calls ((Ze l0 x11_1).f1) (-8388607) 8388607 true _ A12.out).mono ?_
                  rintro e w' ⟨rfl,⟨nd,rfl⟩⟩;refine ⟨_,rfl,?_⟩;refine hK.out _ _ ⟨(Zm BK337.out 0).trans rfl,(Zm BK337.out 1).trans rfl,(Zm BK337.out 2).trans rfl⟩ (fun hHeld => ?_);clear hK K;refine norm_ (a' := ?_) ?_ ?_;rotate_left
                  · show Act.put _ (some 23) _ = _
                    simp only [Act.put,YV,YW,YX,i64_w,i32_w];rfl
                  refine pure_ (i := 8) (N := some 24) (v := ?_) (a' := ?_) #[Y,Y,Y,Y,Y,Y,Y,Y,Y,U,U,U,U,U,U,U,U,U,U,U,U,U,U,U,U,U,U,U,U,U,U] rfl rfl (Zn HT_.out (by kernel_rfl)) (fun _ _ _ h => h) (Or.inl ⟨by rfl,?_⟩) ?_ ?_;rotate_left
                  · intro w'
                    go_simp;with_reducible rfl
                  rotate_left
                  · simp only [Act.put,YV,YW,YX,i64_w,i32_w]
                    rfl
                  refine pure_ (i := 9) (N := some 25) (v := ?_) (a' := ?_) #[Y,Y,Y,Y,Y,Y,Y,Y,Y,Y,U,U,U,U,U,U,U,U,U,U,U,U,U,U,U,U,U,U,U,U,U] rfl rfl (Zn HT_.out (by kernel_rfl)) (fun _ _ _ h => h) (Or.inl ⟨by rfl,?_⟩) ?_ ?_;rotate_left
                  · intro w'
                    go_simp;with_reducible rfl
                  rotate_left
                  · simp only [Act.put,YV,YW,YX,i64_w,i32_w]
                    rfl
                  refine pure_ (i := 10) (N := some 26) (v := ?_) (a' := ?_) #[Y,Y,Y,Y,Y,Y,Y,Y,Y,Y,Y,U,U,U,U,U,U,U,U,U,U,U,U,U,U,U,U,U,U,U,U] rfl rfl (Zn HT_.out (by kernel_rfl)) (fun _ _ _ h => h) (Or.inl ⟨by rfl,?_⟩) ?_ ?_;rotate_left
                  · intro w'
                    go_simp;with_reducible rfl
                  rotate_left
                  · simp only [Act.put,YV,YW,YX,i64_w,i32_w]
                    rfl
                  refine pure_ (i := 11) (N := some 27) (v := ?_) (a' := ?_) #[Y,Y,Y,Y,Y,Y,Y,Y,Y,Y,Y,Y,U,U,U,U,U,U,U,U,U,U,U,U,U,U,U,U,U,U,U] rfl rfl (Zn HT_.out (by kernel_rfl)) (fun _ _ _ h => h) (Or.inl ⟨by rfl,?_⟩) ?_ ?_;rotate_left
                  · intro w'
                    go_simp;with_reducible rfl
                  rotate_left
                  · simp only [Act.put,YV,YW,YX,i64_w,i32_w]
                    rfl
                  refine take_ (i := 12) (N := some 28) (v := ?_) (a' := ?_) #[Y,Y,Y,Y,Y,Y,Y,Y,Y,Y,Y,Y,Y,U,U,U,U,U,U,U,U,U,U,U,U,U,U,U,U,U,U] rfl rfl (Xh HT_.out HW_.out (by kernel_rfl)) (fun _ _ _ h => h) (Or.inl ⟨by rfl,?_⟩) hHeld ?_ ?_;rotate_left
                  · rintro w' ⟨s0,s1,s2⟩
                    go_simp;with_reducible rfl
                  rotate_left
                  · simp only [Act.put,YV,YW,YX,i64_w,i32_w]
                    rfl
                  refine one_ (i := 13) (N := some 29) #[Y,Y,Y,Y,Y,Y,Y,Y,Y,Y,Y,Y,Y,Y,U,U,U,U,U,U,U,U,U,U,U,U,U,U,U,U,U] rfl rfl (X7 HT_.out (by kernel_rfl)) (by decide) (fun K hK => ?_);refine goes_ Try.func43 (by kernel_rfl) rfl #[.int .i64 ((Ze l0 x11_1).f2),.int .i64 0,.int .i64 2] (by rfl) rfl rfl (by (try simp only [List.map_toArray,List.map_cons,List.map_nil]);first | done | rfl | (simp only [List.length_drop,List.length_take];rfl)) ?_
                  with_reducible refine (Z1.calls ((Ze l0 x11_1).f2) 0 2 false _ A14.out).mono ?_
                  rintro e w' ⟨rfl,⟨nd,rfl⟩⟩;refine ⟨_,rfl,?_⟩;refine hK.out _ _ ⟨(Zm BK337.out 0).trans rfl,(Zm BK337.out 1).trans rfl,(Zm BK337.out 2).trans rfl⟩ (fun hHeld => ?_);clear hK K;refine norm_ (a' := ?_) ?_ ?_;rotate_left
                  · show Act.put _ (some 29) _ = _
                    simp only [Act.put,YV,YW,YX,i64_w,i32_w];rfl
                  refine pure_ (i := 14) (N := some 30) (v := ?_) (a' := ?_) #[Y,Y,Y,Y,Y,Y,Y,Y,Y,Y,Y,Y,Y,Y,Y,U,U,U,U,U,U,U,U,U,U,U,U,U,U,U,U] rfl rfl (Zn HT_.out (by kernel_rfl)) (fun _ _ _ h => h) (Or.inl ⟨by rfl,?_⟩) ?_ ?_;rotate_left
                  · intro w'
                    go_simp;with_reducible rfl
                  rotate_left
                  · simp only [Act.put,YV,YW,YX,i64_w,i32_w]
                    rfl
                  refine pure_ (i := 15) (N := some 31) (v := ?_) (a' := ?_) #[Y,Y,Y,Y,Y,Y,Y,Y,Y,Y,Y,Y,Y,Y,Y,Y,U,U,U,U,U,U,U,U,U,U,U,U,U,U,U] rfl rfl (Zn HT_.out (by kernel_rfl)) (fun _ _ _ h => h) (Or.inl ⟨by rfl,?_⟩) ?_ ?_;rotate_left
                  · intro w'
                    go_simp;with_reducible rfl
                  rotate_left
                  · simp only [Act.put,YV,YW,YX,i64_w,i32_w]
                    rfl
                  refine pure_ (i := 16) (N := some 32) (v := ?_) (a' := ?_) #[Y,Y,Y,Y,Y,Y,Y,Y,Y,Y,Y,Y,Y,Y,Y,Y,Y,U,U,U,U,U,U,U,U,U,U,U,U,U,U] rfl rfl (Zn HT_.out (by kernel_rfl)) (fun _ _ _ h => h) (Or.inl ⟨by rfl,?_⟩) ?_ ?_;rotate_left
                  · intro w'
                    go_simp;with_reducible rfl
                  rotate_left
                  · simp only [Act.put,YV,YW,YX,i64_w,i32_w]
                    rfl
                  refine pure_ (i := 17) (N := some 33) (v := undef) (a' := ?_) #[Y,Y,Y,Y,Y,Y,Y,Y,Y,Y,Y,Y,Y,Y,Y,Y,Y,Y,U,U,U,U,U,U,U,U,U,U,U,U,U] rfl rfl (Zn HT_.out (by kernel_rfl)) (fun _ _ _ h => h) (Or.inr ⟨by rfl,rfl⟩) ?_ ?_;rotate_left
                  · simp only [Act.put,YV,YW,YX,i64_w,i32_w]
                    rfl
                  refine pure_ (i := 18) (N := some 34) (v := undef) (a' := ?_) #[Y,Y,Y,Y,Y,Y,Y,Y,Y,Y,Y,Y,Y,Y,Y,Y,Y,Y,Y,U,U,U,U,U,U,U,U,U,U,U,U] rfl rfl (Zn HT_.out (by kernel_rfl)) (fun _ _ _ h => h) (Or.inr ⟨by rfl,rfl⟩) ?_ ?_;rotate_left
                  · simp only [Act.put,YV,YW,YX,i64_w,i32_w]
                    rfl
                  refine pure_ (i := 19) (N := some 35) (v := undef) (a' := ?_) #[Y,Y,Y,Y,Y,Y,Y,Y,Y,Y,Y,Y,Y,Y,Y,Y,Y,Y,Y,Y,U,U,U,U,U,U,U,U,U,U,U] rfl rfl (Zn HT_.out (by kernel_rfl)) (fun _ _ _ h => h) (Or.inr ⟨by rfl,rfl⟩) ?_ ?_;rotate_left
                  · simp only [Act.put,YV,YW,YX,i64_w,i32_w]
                    rfl
                  refine pure_ (i := 20) (N := some 36) (v := undef) (a' := ?_) #[Y,Y,Y,Y,Y,Y,Y,Y,Y,Y,Y,Y,Y,Y,Y,Y,Y,Y,Y,Y,Y,U,U,U,U,U,U,U,U,U,U] rfl rfl (Zn HT_.out (by kernel_rfl)) (fun _ _ _ h => h) (Or.inr ⟨by rfl,rfl⟩) ?_ ?_;rotate_left
                  · simp only [Act.put,YV,YW,YX,i64_w,i32_w]
                    rfl
                  refine pure_ (i := 21) (N := some 37) (v := undef) (a' := ?_) #[Y,Y,Y,Y,Y,Y,Y,Y,Y,Y,Y,Y,Y,Y,Y,Y,Y,Y,Y,Y,Y,Y,U,U,U,U,U,U,U,U,U] rfl rfl (Zn HT_.out (by kernel_rfl)) (fun _ _ _ h => h) (Or.inr ⟨by rfl,rfl⟩) ?_ ?_;rotate_left
                  · simp only [Act.put,YV,YW,YX,i64_w,i32_w]
                    rfl
                  refine pure_ (i := 22) (N := some 38) (v := undef) (a' := ?_) #[Y,Y,Y,Y,Y,Y,Y,Y,Y,Y,Y,Y,Y,Y,Y,Y,Y,Y,Y,Y,Y,Y,Y,U,U,U,U,U,U,U,U] rfl rfl (Zn HT_.out (by kernel_rfl)) (fun _ _ _ h => h) (Or.inr ⟨by rfl,rfl⟩) ?_ ?_;rotate_left
                  · simp only [Act.put,YV,YW,YX,i64_w,i32_w]
                    rfl
                  refine pure_ (i := 23) (N := some 39) (v := undef) (a' := ?_) #[Y,Y,Y,Y,Y,Y,Y,Y,Y,Y,Y,Y,Y,Y,Y,Y,Y,Y,Y,Y,Y,Y,Y,Y,U,U,U,U,U,U,U] rfl rfl (Zn HT_.out (by kernel_rfl)) (fun _ _ _ h => h) (Or.inr ⟨by rfl,rfl⟩) ?_ ?_;rotate_left
                  · simp only [Act.put,YV,YW,YX,i64_w,i32_w]
                    rfl
                  refine pure_ (i := 24) (N := some 40) (v := undef) (a' := ?_) #[Y,Y,Y,Y,Y,Y,Y,Y,Y,Y,Y,Y,Y,Y,Y,Y,Y,Y,Y,Y,Y,Y,Y,Y,Y,U,U,U,U,U,U] rfl rfl (Zn HT_.out (by kernel_rfl)) (fun _ _ _ h => h) (Or.inr ⟨by rfl,rfl⟩) ?_ ?_;rotate_left
                  · simp only [Act.put,YV,YW,YX,i64_w,i32_w]
                    rfl
                  refine pure_ (i := 25) (N := some 41) (v := undef) (a' := ?_) #[Y,Y,Y,Y,Y,Y,Y,Y,Y,Y,Y,Y,Y,Y,Y,Y,Y,Y,Y,Y,Y,Y,Y,Y,Y,Y,U,U,U,U,U] rfl rfl (Zn HT_.out (by kernel_rfl)) (fun _ _ _ h => h) (Or.inr ⟨by rfl,rfl⟩) ?_ ?_;rotate_left
                  · simp only [Act.put,YV,YW,YX,i64_w,i32_w]
                    rfl
                  refine pure_ (i := 26) (N := some 42) (v := undef) (a' := ?_) #[Y,Y,Y,Y,Y,Y,Y,Y,Y,Y,Y,Y,Y,Y,Y,Y,Y,Y,Y,Y,Y,Y,Y,Y,Y,Y,Y,U,U,U,U] rfl rfl (Zn HT_.out (by kernel_rfl)) (fun _ _ _ h => h) (Or.inr ⟨by rfl,rfl⟩) ?_ ?_;rotate_left
                  · simp only [Act.put,YV,YW,YX,i64_w,i32_w]
                    rfl
                  refine pure_ (i := 27) (N := some 43) (v := undef) (a' := ?_) #[Y,Y,Y,Y,Y,Y,Y,Y,Y,Y,Y,Y,Y,Y,Y,Y,Y,Y,Y,Y,Y,Y,Y,Y,Y,Y,Y,Y,U,U,U] rfl rfl (Zn HT_.out (by kernel_rfl)) (fun _ _ _ h => h) (Or.inr ⟨by rfl,rfl⟩) ?_ ?_;rotate_left
                  · simp only [Act.put,YV,YW,YX,i64_w,i32_w]
                    rfl
                  refine pure_ (i := 28) (N := some 44) (v := undef) (a' := ?_) #[Y,Y,Y,Y,Y,Y,Y,Y,Y,Y,Y,Y,Y,Y,Y,Y,Y,Y,Y,Y,Y,Y,Y,Y,Y,Y,Y,Y,Y,U,U] rfl rfl (Zn HT_.out (by kernel_rfl)) (fun _ _ _ h => h) (Or.inr ⟨by rfl,rfl⟩) ?_ ?_;rotate_left
                  · simp only [Act.put,YV,YW,YX,i64_w,i32_w]
                    rfl
                  refine pure_ (i := 29) (N := some 45) (v := undef) (a' := ?_) #[Y,Y,Y,Y,Y,Y,Y,Y,Y,Y,Y,Y,Y,Y,Y,Y,Y,Y,Y,Y,Y,Y,Y,Y,Y,Y,Y,Y,Y,Y,U] rfl rfl (Zn HT_.out (by kernel_rfl)) (fun _ _ _ h => h) (Or.inr ⟨by rfl,rfl⟩) ?_ ?_;rotate_left
                  · simp only [Act.put,YV,YW,YX,i64_w,i32_w]
                    rfl
                  refine pure_ (i := 30) (N := some 46) (v := ?_) (a' := ?_) #[Y,Y,Y,Y,Y,Y,Y,Y,Y,Y,Y,Y,Y,Y,Y,Y,Y,Y,Y,Y,Y,Y,Y,Y,Y,Y,Y,Y,Y,Y,Y] rfl rfl (Zn HT_.out (by kernel_rfl)) (fun _ _ _ h => h) (Or.inl ⟨by rfl,?_⟩) ?_ ?_;rotate_left
                  · intro w'
                    go_simp;with_reducible rfl
                  rotate_left
                  · simp only [Act.put,YV,YW,YX,i64_w,i32_w]
                    rfl
                  refine done_ (XA HT_.out (by kernel_rfl)) ?_
                  try go_wp2
                  go_meet
                  case rel => exact ⟨_,(true),(by first | rfl | (simp;done) | (simp [*];done)),H',⟨by have := HK1.out;first | omega | exact Nat.le_refl _⟩,⟨by (with_reducible repeat (first | refine Zu ?_ _ | refine Zw ?_ | refine Zs ?_ _));exact BK337.out⟩,⟨by repeat (first | (with_reducible first | exact HB.out | apply Zc | apply Za | apply Zb | refine Z9 ?_ GE337.out) | exact HB.out)⟩⟩
              · replace c13 := Bool.eq_false_iff.mpr c13
                subst c13
                have H1 : (Zk.j1 k1 l0 x11_1 l0 (l0.length : Int) x11_1 true ((Ze l0 x11_1).f0) ((Ze l0 x11_1).f1) ((Ze l0 x11_1).f2)) = some r := by rw [if_neg (show ¬ (false = true) by decide)] at H;exact H
                clear H;have H := H1;clear H1;have H' := Zd.mk H;clear H
                try go_wp2
                have n0_ : Zd ((((w8.setCell ⟨gb337,0,none⟩ (.int .i64 ((Ze l0 x11_1).f0))).setCell ⟨gb337,1,none⟩ (.int .i64 ((Ze l0 x11_1).f1))).setCell ⟨gb337,2,none⟩ (.int .i64 ((Ze l0 x11_1).f2))).heap[gb337]? = some (.cells #[.int .i64 ((Ze l0 x11_1).f0),.int .i64 ((Ze l0 x11_1).f1),.int .i64 ((Ze l0 x11_1).f2)] 56 (0,0))) := ⟨by (with_reducible repeat (first | refine Zu ?_ _ | refine Zw ?_ | refine Zs ?_ _));refine ZE (cs := #[.int .i64 ((Ze l0 x11_1).f0),.int .i64 ((Ze l0 x11_1).f1),.int .i64 0]) ?_ 2 _ rfl;(with_reducible repeat (first | refine Zu ?_ _ | refine Zw ?_ | refine Zs ?_ _));refine ZE (cs := #[.int .i64 ((Ze l0 x11_1).f0),.int .i64 0,.int .i64 0]) ?_ 1 _ rfl;(with_reducible repeat (first | refine Zu ?_ _ | refine Zw ?_ | refine Zs ?_ _));refine ZE (cs := #[.int .i64 0,.int .i64 0,.int .i64 0]) ?_ 0 _ rfl;(with_reducible repeat (first | refine Zu ?_ _ | refine Zw ?_ | refine Zs ?_ _));exact BK337.out⟩
                have n1_ : Zd (Below w.heap.size w (((w8.setCell ⟨gb337,0,none⟩ (.int .i64 ((Ze l0 x11_1).f0))).setCell ⟨gb337,1,none⟩ (.int .i64 ((Ze l0 x11_1).f1))).setCell ⟨gb337,2,none⟩ (.int .i64 ((Ze l0 x11_1).f2)))) := ⟨by repeat (first | (with_reducible first | exact HB.out | apply Zc | apply Za | apply Zb | refine Z9 ?_ GE337.out) | exact HB.out)⟩
                (try clear BK337)
                (try clear HB)
                generalize (((w8.setCell ⟨gb337,0,none⟩ (.int .i64 ((Ze l0 x11_1).f0))).setCell ⟨gb337,1,none⟩ (.int .i64 ((Ze l0 x11_1).f1))).setCell ⟨gb337,2,none⟩ (.int .i64 ((Ze l0 x11_1).f2))) = w26 at n0_ n1_ ⊢;have BK337 := n0_;have HB := n1_;clear n0_ n1_;have n0_ := Zd.mk (Zw BK337.out);have n1_ := Zd.mk (Zb HB.out);clear BK337;clear HB;have BK337 := n0_;have HB := n1_;clear n0_ n1_;refine XE (n := 31) (S := fun w' => w'.cell? ⟨gb337,0,none⟩ = some (.int .i64 ((Ze l0 x11_1).f0)) ∧ w'.cell? ⟨gb337,1,none⟩ = some (.int .i64 ((Ze l0 x11_1).f1)) ∧ w'.cell? ⟨gb337,2,none⟩ = some (.int .i64 ((Ze l0 x11_1).f2))) (ds := []) #[U,U,U,U,U,U,U,U,U,U,U,U,U,U,U,U,U,U,U,U,U,U,U,U,U,U,U,U,U,U,U] (by kernel_rfl) rfl rfl ⟨(Zm BK337.out 0).trans rfl,(Zm BK337.out 1).trans rfl,(Zm BK337.out 2).trans rfl⟩ (fun hHeld => ?_);refine X2 Zk.tab6 Zk.bits6 (fun HT_ HW_ => ?_);generalize w26.drew = w27 at BK337 HB hHeld ⊢;refine pure_ (i := 0) (N := some 16) (v := ?_) (a' := ?_) #[Y,U,U,U,U,U,U,U,U,U,U,U,U,U,U,U,U,U,U,U,U,U,U,U,U,U,U,U,U,U,U] rfl rfl (Zn HT_.out (by kernel_rfl)) (fun _ _ _ h => h) (Or.inl ⟨by rfl,?_⟩) ?_ ?_;rotate_left
                · intro w'
                  go_simp;with_reducible rfl
                rotate_left
                · simp only [Act.put,YV,YW,YX,i64_w,i32_w]
                  rfl
                refine take_ (i := 1) (N := some 17) (v := ?_) (a' := ?_) #[Y,Y,U,U,U,U,U,U,U,U,U,U,U,U,U,U,U,U,U,U,U,U,U,U,U,U,U,U,U,U,U] rfl rfl (Xh HT_.out HW_.out (by kernel_rfl)) (fun _ _ _ h => h) (Or.inl ⟨by rfl,?_⟩) hHeld ?_ ?_;rotate_left
                · rintro w' ⟨s0,s1,s2⟩
                  go_simp;with_reducible rfl
                rotate_left
                · simp only [Act.put,YV,YW,YX,i64_w,i32_w]
                  rfl
                refine one_ (i := 2) (N := some 18) #[Y,Y,Y,U,U,U,U,U,U,U,U,U,U,U,U,U,U,U,U,U,U,U,U,U,U,U,U,U,U,U,U] rfl rfl (X7 HT_.out (by kernel_rfl)) (by decide) (fun K hK => ?_);refine goes_ Try.func43 (by kernel_rfl) rfl #[.int .i64 ((Ze l0 x11_1).f0),.int .i64 0,.int .i64 1000000000] (by rfl) rfl rfl (by (try simp only [List.map_toArray,List.map_cons,List.map_nil]);first | done | rfl | (simp only [List.length_drop,List.length_take];rfl)) ?_
                with_reducible refine (Z1.calls ((Ze l0 x11_1).f0) 0 1000000000 true _ A10.out).mono ?_
                rintro e w' ⟨rfl,⟨nd,rfl⟩⟩;refine ⟨_,rfl,?_⟩;refine hK.out _ _ ⟨(Zm BK337.out 0).trans rfl,(Zm BK337.out 1).trans rfl,(Zm BK337.out 2).trans rfl⟩ (fun hHeld => ?_);clear hK K;refine norm_ (a' := ?_) ?_ ?_;rotate_left
                · show Act.put _ (some 18) _ = _
                  simp only [Act.put,YV,YW,YX,i64_w,i32_w];rfl
                refine pure_ (i := 3) (N := some 19) (v := ?_) (a' := ?_) #[Y,Y,Y,Y,U,U,U,U,U,U,U,U,U,U,U,U,U,U,U,U,U,U,U,U,U,U,U,U,U,U,U] rfl rfl (Zn HT_.out (by kernel_rfl)) (fun _ _ _ h => h) (Or.inl ⟨by rfl,?_⟩) ?_ ?_;rotate_left
                · intro w'
                  go_simp;with_reducible rfl
                rotate_left
                · simp only [Act.put,YV,YW,YX,i64_w,i32_w]
                  rfl
                refine pure_ (i := 4) (N := some 20) (v := ?_) (a' := ?_) #[Y,Y,Y,Y,Y,U,U,U,U,U,U,U,U,U,U,U,U,U,U,U,U,U,U,U,U,U,U,U,U,U,U] rfl rfl (Zn HT_.out (by kernel_rfl)) (fun _ _ _ h => h) (Or.inl ⟨by rfl,?_⟩) ?_ ?_;rotate_left
                · intro w'
                  go_simp;with_reducible rfl
                rotate_left
                · simp only [Act.put,YV,YW,YX,i64_w,i32_w]
                  rfl
                refine pure_ (i := 5) (N := some 21) (v := ?_) (a' := ?_) #[Y,Y,Y,Y,Y,Y,U,U,U,U,U,U,U,U,U,U,U,U,U,U,U,U,U,U,U,U,U,U,U,U,U] rfl rfl (Zn HT_.out (by kernel_rfl)) (fun _ _ _ h => h) (Or.inl ⟨by rfl,?_⟩) ?_ ?_;rotate_left
                · intro w'
                  go_simp;with_reducible rfl
                rotate_left
                · simp only [Act.put,YV,YW,YX,i64_w,i32_w]
                  rfl
                refine take_ (i := 6) (N := some 22) (v := ?_) (a' := ?_) #[Y,Y,Y,Y,Y,Y,Y,U,U,U,U,U,U,U,U,U,U,U,U,U,U,U,U,U,U,U,U,U,U,U,U] rfl rfl (Xh HT_.out HW_.out (by kernel_rfl)) (fun _ _ _ h => h) (Or.inl ⟨by rfl,?_⟩) hHeld ?_ ?_;rotate_left
                · rintro w' ⟨s0,s1,s2⟩
                  go_simp;with_reducible rfl
                rotate_left
                · simp only [Act.put,YV,YW,YX,i64_w,i32_w]
                  rfl
                refine one_ (i := 7) (N := some 23) #[Y,Y,Y,Y,Y,Y,Y,Y,U,U,U,U,U,U,U,U,U,U,U,U,U,U,U,U,U,U,U,U,U,U,U] rfl rfl (X7 HT_.out (by kernel_rfl)) (by decide) (fun K hK => ?_);refine goes_ Try.func43 (by kernel_rfl) rfl #[.int .i64 ((Ze l0 x11_1).f1),.int .i64 (-8388607),.int .i64 8388607] (by rfl) rfl rfl (by (try simp only [List.map_toArray,List.map_cons,List.map_nil]);first | done | rfl | (simp only [List.length_drop,List.length_take];rfl)) ?_
                with_reducible refine (Z1.calls ((Ze l0 x11_1).f1) (-8388607) 8388607 false _ A12.out).mono ?_
                rintro e w' ⟨rfl,⟨nd,rfl⟩⟩;refine ⟨_,rfl,?_⟩;refine hK.out _ _ ⟨(Zm BK337.out 0).trans rfl,(Zm BK337.out 1).trans rfl,(Zm BK337.out 2).trans rfl⟩ (fun hHeld => ?_);clear hK K;refine norm_ (a' := ?_) ?_ ?_;rotate_left
                · show Act.put _ (some 23) _ = _
                  simp only [Act.put,YV,YW,YX,i64_w,i32_w];rfl
                refine pure_ (i := 8) (N := some 24) (v := ?_) (a' := ?_) #[Y,Y,Y,Y,Y,Y,Y,Y,Y,U,U,U,U,U,U,U,U,U,U,U,U,U,U,U,U,U,U,U,U,U,U] rfl rfl (Zn HT_.out (by kernel_rfl)) (fun _ _ _ h => h) (Or.inl ⟨by rfl,?_⟩) ?_ ?_;rotate_left
                · intro w'
                  go_simp;with_reducible rfl
                rotate_left
                · simp only [Act.put,YV,YW,YX,i64_w,i32_w]
                  rfl
                refine pure_ (i := 9) (N := some 25) (v := ?_) (a' := ?_) #[Y,Y,Y,Y,Y,Y,Y,Y,Y,Y,U,U,U,U,U,U,U,U,U,U,U,U,U,U,U,U,U,U,U,U,U] rfl rfl (Zn HT_.out (by kernel_rfl)) (fun _ _ _ h => h) (Or.inl ⟨by rfl,?_⟩) ?_ ?_;rotate_left
                · intro w'
                  go_simp;with_reducible rfl
                rotate_left
                · simp only [Act.put,YV,YW,YX,i64_w,i32_w]
                  rfl
                refine pure_ (i := 10) (N := some 26) (v := ?_) (a' := ?_) #[Y,Y,Y,Y,Y,Y,Y,Y,Y,Y,Y,U,U,U,U,U,U,U,U,U,U,U,U,U,U,U,U,U,U,U,U] rfl rfl (Zn HT_.out (by kernel_rfl)) (fun _ _ _ h => h) (Or.inl ⟨by rfl,?_⟩) ?_ ?_;rotate_left
                · intro w'
                  go_simp;with_reducible rfl
                rotate_left
                · simp only [Act.put,YV,YW,YX,i64_w,i32_w]
                  rfl
                refine pure_ (i := 11) (N := some 27) (v := undef) (a' := ?_) #[Y,Y,Y,Y,Y,Y,Y,Y,Y,Y,Y,Y,U,U,U,U,U,U,U,U,U,U,U,U,U,U,U,U,U,U,U] rfl rfl (Zn HT_.out (by kernel_rfl)) (fun _ _ _ h => h) (Or.inr ⟨by rfl,rfl⟩) ?_ ?_;rotate_left
                · simp only [Act.put,YV,YW,YX,i64_w,i32_w]
                  rfl
                refine pure_ (i := 12) (N := some 28) (v := undef) (a' := ?_) #[Y,Y,Y,Y,Y,Y,Y,Y,Y,Y,Y,Y,Y,U,U,U,U,U,U,U,U,U,U,U,U,U,U,U,U,U,U] rfl rfl (Zn HT_.out (by kernel_rfl)) (fun _ _ _ h => h) (Or.inr ⟨by rfl,rfl⟩) ?_ ?_;rotate_left
                · simp only [Act.put,YV,YW,YX,i64_w,i32_w]
                  rfl
                refine pure_ (i := 13) (N := some 29) (v := undef) (a' := ?_) #[Y,Y,Y,Y,Y,Y,Y,Y,Y,Y,Y,Y,Y,Y,U,U,U,U,U,U,U,U,U,U,U,U,U,U,U,U,U] rfl rfl (Zn HT_.out (by kernel_rfl)) (fun _ _ _ h => h) (Or.inr ⟨by rfl,rfl⟩) ?_ ?_;rotate_left
                · simp only [Act.put,YV,YW,YX,i64_w,i32_w]
                  rfl
                refine pure_ (i := 14) (N := some 30) (v := undef) (a' := ?_) #[Y,Y,Y,Y,Y,Y,Y,Y,Y,Y,Y,Y,Y,Y,Y,U,U,U,U,U,U,U,U,U,U,U,U,U,U,U,U] rfl rfl (Zn HT_.out (by kernel_rfl)) (fun _ _ _ h => h) (Or.inr ⟨by rfl,rfl⟩) ?_ ?_;rotate_left
                · simp only [Act.put,YV,YW,YX,i64_w,i32_w]
                  rfl
                refine pure_ (i := 15) (N := some 31) (v := ?_) (a' := ?_) #[Y,Y,Y,Y,Y,Y,Y,Y,Y,Y,Y,Y,Y,Y,Y,Y,U,U,U,U,U,U,U,U,U,U,U,U,U,U,U] rfl rfl (Zn HT_.out (by kernel_rfl)) (fun _ _ _ h => h) (Or.inl ⟨by rfl,?_⟩) ?_ ?_;rotate_left
                · intro w'
                  go_simp;with_reducible rfl
                rotate_left
                · simp only [Act.put,YV,YW,YX,i64_w,i32_w]
                  rfl
                refine pure_ (i := 16) (N := some 32) (v := ?_) (a' := ?_) #[Y,Y,Y,Y,Y,Y,Y,Y,Y,Y,Y,Y,Y,Y,Y,Y,Y,U,U,U,U,U,U,U,U,U,U,U,U,U,U] rfl rfl (Zn HT_.out (by kernel_rfl)) (fun _ _ _ h => h) (Or.inl ⟨by rfl,?_⟩) ?_ ?_;rotate_left
                · intro w'
                  go_simp;with_reducible rfl
                rotate_left
                · simp only [Act.put,YV,YW,YX,i64_w,i32_w]
                  rfl
                refine pure_ (i := 17) (N := some 33) (v := undef) (a' := ?_) #[Y,Y,Y,Y,Y,Y,Y,Y,Y,Y,Y,Y,Y,Y,Y,Y,Y,Y,U,U,U,U,U,U,U,U,U,U,U,U,U] rfl rfl (Zn HT_.out (by kernel_rfl)) (fun _ _ _ h => h) (Or.inr ⟨by rfl,rfl⟩) ?_ ?_;rotate_left
                · simp only [Act.put,YV,YW,YX,i64_w,i32_w]
                  rfl
                refine pure_ (i := 18) (N := some 34) (v := undef) (a' := ?_) #[Y,Y,Y,Y,Y,Y,Y,Y,Y,Y,Y,Y,Y,Y,Y,Y,Y,Y,Y,U,U,U,U,U,U,U,U,U,U,U,U] rfl rfl (Zn HT_.out (by kernel_rfl)) (fun _ _ _ h => h) (Or.inr ⟨by rfl,rfl⟩) ?_ ?_;rotate_left
                · simp only [Act.put,YV,YW,YX,i64_w,i32_w]
                  rfl
                refine pure_ (i := 19) (N := some 35) (v := undef) (a' := ?_) #[Y,Y,Y,Y,Y,Y,Y,Y,Y,Y,Y,Y,Y,Y,Y,Y,Y,Y,Y,Y,U,U,U,U,U,U,U,U,U,U,U] rfl rfl (Zn HT_.out (by kernel_rfl)) (fun _ _ _ h => h) (Or.inr ⟨by rfl,rfl⟩) ?_ ?_;rotate_left
                · simp only [Act.put,YV,YW,YX,i64_w,i32_w]
                  rfl
                refine pure_ (i := 20) (N := some 36) (v := undef) (a' := ?_) #[Y,Y,Y,Y,Y,Y,Y,Y,Y,Y,Y,Y,Y,Y,Y,Y,Y,Y,Y,Y,Y,U,U,U,U,U,U,U,U,U,U] rfl rfl (Zn HT_.out (by kernel_rfl)) (fun _ _ _ h => h) (Or.inr ⟨by rfl,rfl⟩) ?_ ?_;rotate_left
                · simp only [Act.put,YV,YW,YX,i64_w,i32_w]
                  rfl
                refine pure_ (i := 21) (N := some 37) (v := undef) (a' := ?_) #[Y,Y,Y,Y,Y,Y,Y,Y,Y,Y,Y,Y,Y,Y,Y,Y,Y,Y,Y,Y,Y,Y,U,U,U,U,U,U,U,U,U] rfl rfl (Zn HT_.out (by kernel_rfl)) (fun _ _ _ h => h) (Or.inr ⟨by rfl,rfl⟩) ?_ ?_;rotate_left
                · simp only [Act.put,YV,YW,YX,i64_w,i32_w]
                  rfl
                refine pure_ (i := 22) (N := some 38) (v := undef) (a' := ?_) #[Y,Y,Y,Y,Y,Y,Y,Y,Y,Y,Y,Y,Y,Y,Y,Y,Y,Y,Y,Y,Y,Y,Y,U,U,U,U,U,U,U,U] rfl rfl (Zn HT_.out (by kernel_rfl)) (fun _ _ _ h => h) (Or.inr ⟨by rfl,rfl⟩) ?_ ?_;rotate_left
                · simp only [Act.put,YV,YW,YX,i64_w,i32_w]
                  rfl
                refine pure_ (i := 23) (N := some 39) (v := undef) (a' := ?_) #[Y,Y,Y,Y,Y,Y,Y,Y,Y,Y,Y,Y,Y,Y,Y,Y,Y,Y,Y,Y,Y,Y,Y,Y,U,U,U,U,U,U,U] rfl rfl (Zn HT_.out (by kernel_rfl)) (fun _ _ _ h => h) (Or.inr ⟨by rfl,rfl⟩) ?_ ?_;rotate_left
                · simp only [Act.put,YV,YW,YX,i64_w,i32_w]
                  rfl
                refine pure_ (i := 24) (N := some 40) (v := undef) (a' := ?_) #[Y,Y,Y,Y,Y,Y,Y,Y,Y,Y,Y,Y,Y,Y,Y,Y,Y,Y,Y,Y,Y,Y,Y,Y,Y,U,U,U,U,U,U] rfl rfl (Zn HT_.out (by kernel_rfl)) (fun _ _ _ h => h) (Or.inr ⟨by rfl,rfl⟩) ?_ ?_;rotate_left
                · simp only [Act.put,YV,YW,YX,i64_w,i32_w]
                  rfl
                refine pure_ (i := 25) (N := some 41) (v := undef) (a' := ?_) #[Y,Y,Y,Y,Y,Y,Y,Y,Y,Y,Y,Y,Y,Y,Y,Y,Y,Y,Y,Y,Y,Y,Y,Y,Y,Y,U,U,U,U,U] rfl rfl (Zn HT_.out (by kernel_rfl)) (fun _ _ _ h => h) (Or.inr ⟨by rfl,rfl⟩) ?_ ?_;rotate_left
                · simp only [Act.put,YV,YW,YX,i64_w,i32_w]
                  rfl
                refine pure_ (i := 26) (N := some 42) (v := undef) (a' := ?_) #[Y,Y,Y,Y,Y,Y,Y,Y,Y,Y,Y,Y,Y,Y,Y,Y,Y,Y,Y,Y,Y,Y,Y,Y,Y,Y,Y,U,U,U,U] rfl rfl (Zn HT_.out (by kernel_rfl)) (fun _ _ _ h => h) (Or.inr ⟨by rfl,rfl⟩) ?_ ?_;rotate_left
                · simp only [Act.put,YV,YW,YX,i64_w,i32_w]
                  rfl
                refine pure_ (i := 27) (N := some 43) (v := undef) (a' := ?_) #[Y,Y,Y,Y,Y,Y,Y,Y,Y,Y,Y,Y,Y,Y,Y,Y,Y,Y,Y,Y,Y,Y,Y,Y,Y,Y,Y,Y,U,U,U] rfl rfl (Zn HT_.out (by kernel_rfl)) (fun _ _ _ h => h) (Or.inr ⟨by rfl,rfl⟩) ?_ ?_;rotate_left
                · simp only [Act.put,YV,YW,YX,i64_w,i32_w]
                  rfl
                refine pure_ (i := 28) (N := some 44) (v := undef) (a' := ?_) #[Y,Y,Y,Y,Y,Y,Y,Y,Y,Y,Y,Y,Y,Y,Y,Y,Y,Y,Y,Y,Y,Y,Y,Y,Y,Y,Y,Y,Y,U,U] rfl rfl (Zn HT_.out (by kernel_rfl)) (fun _ _ _ h => h) (Or.inr ⟨by rfl,rfl⟩) ?_ ?_;rotate_left
                · simp only [Act.put,YV,YW,YX,i64_w,i32_w]
                  rfl
                refine pure_ (i := 29) (N := some 45) (v := undef) (a' := ?_) #[Y,Y,Y,Y,Y,Y,Y,Y,Y,Y,Y,Y,Y,Y,Y,Y,Y,Y,Y,Y,Y,Y,Y,Y,Y,Y,Y,Y,Y,Y,U] rfl rfl (Zn HT_.out (by kernel_rfl)) (fun _ _ _ h => h) (Or.inr ⟨by rfl,rfl⟩) ?_ ?_;rotate_left
                · simp only [Act.put,YV,YW,YX,i64_w,i32_w]
                  rfl
                refine pure_ (i := 30) (N := some 46) (v := ?_) (a' := ?_) #[Y,Y,Y,Y,Y,Y,Y,Y,Y,Y,Y,Y,Y,Y,Y,Y,Y,Y,Y,Y,Y,Y,Y,Y,Y,Y,Y,Y,Y,Y,Y] rfl rfl (Zn HT_.out (by kernel_rfl)) (fun _ _ _ h => h) (Or.inl ⟨by rfl,?_⟩) ?_ ?_;rotate_left
                · intro w'
                  go_simp;with_reducible rfl
                rotate_left
                · simp only [Act.put,YV,YW,YX,i64_w,i32_w]
                  rfl
                refine done_ (XA HT_.out (by kernel_rfl)) ?_
                try go_wp2
                go_meet
                case rel => exact ⟨_,(true),(by first | rfl | (simp;done) | (simp [*];done)),H',⟨by have := HK1.out;first | omega | exact Nat.le_refl _⟩,⟨by (with_reducible repeat (first | refine Zu ?_ _ | refine Zw ?_ | refine Zs ?_ _));exact BK337.out⟩,⟨by repeat (first | (with_reducible first | exact HB.out | apply Zc | apply Za | apply Zb | refine Z9 ?_ GE337.out) | exact HB.out)⟩⟩
            · replace c11 := Bool.eq_false_iff.mpr c11
              subst c11
              have H1 : (Zk.j1 k1 l0 x11_1 l0 (l0.length : Int) x11_1 true ((Ze l0 x11_1).f0) ((Ze l0 x11_1).f1) ((Ze l0 x11_1).f2)) = some r := by rw [if_neg (show ¬ (false = true) by decide)] at H;exact H
              clear H;have H := H1;clear H1;have H' := Zd.mk H;clear H
              try go_wp2
              have n0_ : Zd ((((w8.setCell ⟨gb337,0,none⟩ (.int .i64 ((Ze l0 x11_1).f0))).setCell ⟨gb337,1,none⟩ (.int .i64 ((Ze l0 x11_1).f1))).setCell ⟨gb337,2,none⟩ (.int .i64 ((Ze l0 x11_1).f2))).heap[gb337]? = some (.cells #[.int .i64 ((Ze l0 x11_1).f0),.int .i64 ((Ze l0 x11_1).f1),.int .i64 ((Ze l0 x11_1).f2)] 56 (0,0))) := ⟨by (with_reducible repeat (first | refine Zu ?_ _ | refine Zw ?_ | refine Zs ?_ _));refine ZE (cs := #[.int .i64 ((Ze l0 x11_1).f0),.int .i64 ((Ze l0 x11_1).f1),.int .i64 0]) ?_ 2 _ rfl;(with_reducible repeat (first | refine Zu ?_ _ | refine Zw ?_ | refine Zs ?_ _));refine ZE (cs := #[.int .i64 ((Ze l0 x11_1).f0),.int .i64 0,.int .i64 0]) ?_ 1 _ rfl;(with_reducible repeat (first | refine Zu ?_ _ | refine Zw ?_ | refine Zs ?_ _));refine ZE (cs := #[.int .i64 0,.int .i64 0,.int .i64 0]) ?_ 0 _ rfl;(with_reducible repeat (first | refine Zu ?_ _ | refine Zw ?_ | refine Zs ?_ _));exact BK337.out⟩
              have n1_ : Zd (Below w.heap.size w (((w8.setCell ⟨gb337,0,none⟩ (.int .i64 ((Ze l0 x11_1).f0))).setCell ⟨gb337,1,none⟩ (.int .i64 ((Ze l0 x11_1).f1))).setCell ⟨gb337,2,none⟩ (.int .i64 ((Ze l0 x11_1).f2)))) := ⟨by repeat (first | (with_reducible first | exact HB.out | apply Zc | apply Za | apply Zb | refine Z9 ?_ GE337.out) | exact HB.out)⟩
              (try clear BK337)
              (try clear HB)
              generalize (((w8.setCell ⟨gb337,0,none⟩ (.int .i64 ((Ze l0 x11_1).f0))).setCell ⟨gb337,1,none⟩ (.int .i64 ((Ze l0 x11_1).f1))).setCell ⟨gb337,2,none⟩ (.int .i64 ((Ze l0 x11_1).f2))) = w28 at n0_ n1_ ⊢;have BK337 := n0_;have HB := n1_;clear n0_ n1_;have n0_ := Zd.mk (Zw BK337.out);have n1_ := Zd.mk (Zb HB.out);clear BK337;clear HB;have BK337 := n0_;have HB := n1_;clear n0_ n1_;refine XE (n := 31) (S := fun w' => w'.cell? ⟨gb337,0,none⟩ = some (.int .i64 ((Ze l0 x11_1).f0)) ∧ w'.cell? ⟨gb337,1,none⟩ = some (.int .i64 ((Ze l0 x11_1).f1)) ∧ w'.cell? ⟨gb337,2,none⟩ = some (.int .i64 ((Ze l0 x11_1).f2))) (ds := []) #[U,U,U,U,U,U,U,U,U,U,U,U,U,U,U,U,U,U,U,U,U,U,U,U,U,U,U,U,U,U,U] (by kernel_rfl) rfl rfl ⟨(Zm BK337.out 0).trans rfl,(Zm BK337.out 1).trans rfl,(Zm BK337.out 2).trans rfl⟩ (fun hHeld => ?_);refine X2 Zk.tab6 Zk.bits6 (fun HT_ HW_ => ?_);generalize w28.drew = w29 at BK337 HB hHeld ⊢;refine pure_ (i := 0) (N := some 16) (v := ?_) (a' := ?_) #[Y,U,U,U,U,U,U,U,U,U,U,U,U,U,U,U,U,U,U,U,U,U,U,U,U,U,U,U,U,U,U] rfl rfl (Zn HT_.out (by kernel_rfl)) (fun _ _ _ h => h) (Or.inl ⟨by rfl,?_⟩) ?_ ?_;rotate_left
              · intro w'
                go_simp;with_reducible rfl
              rotate_left
              · simp only [Act.put,YV,YW,YX,i64_w,i32_w]
                rfl
              refine take_ (i := 1) (N := some 17) (v := ?_) (a' := ?_) #[Y,Y,U,U,U,U,U,U,U,U,U,U,U,U,U,U,U,U,U,U,U,U,U,U,U,U,U,U,U,U,U] rfl rfl (Xh HT_.out HW_.out (by kernel_rfl)) (fun _ _ _ h => h) (Or.inl ⟨by rfl,?_⟩) hHeld ?_ ?_;rotate_left
              · rintro w' ⟨s0,s1,s2⟩
                go_simp;with_reducible rfl
              rotate_left
              · simp only [Act.put,YV,YW,YX,i64_w,i32_w]
                rfl
              refine one_ (i := 2) (N := some 18) #[Y,Y,Y,U,U,U,U,U,U,U,U,U,U,U,U,U,U,U,U,U,U,U,U,U,U,U,U,U,U,U,U] rfl rfl (X7 HT_.out (by kernel_rfl)) (by decide) (fun K hK => ?_);refine goes_ Try.func43 (by kernel_rfl) rfl #[.int .i64 ((Ze l0 x11_1).f0),.int .i64 0,.int .i64 1000000000] (by rfl) rfl rfl (by (try simp only [List.map_toArray,List.map_cons,List.map_nil]);first | done | rfl | (simp only [List.length_drop,List.length_take];rfl)) ?_
              with_reducible refine (Z1.calls ((Ze l0 x11_1).f0) 0 1000000000 false _ A10.out).mono ?_
              rintro e w' ⟨rfl,⟨nd,rfl⟩⟩;refine ⟨_,rfl,?_⟩;refine hK.out _ _ ⟨(Zm BK337.out 0).trans rfl,(Zm BK337.out 1).trans rfl,(Zm BK337.out 2).trans rfl⟩ (fun hHeld => ?_);clear hK K;refine norm_ (a' := ?_) ?_ ?_;rotate_left
              · show Act.put _ (some 18) _ = _
                simp only [Act.put,YV,YW,YX,i64_w,i32_w];rfl
              refine pure_ (i := 3) (N := some 19) (v := ?_) (a' := ?_) #[Y,Y,Y,Y,U,U,U,U,U,U,U,U,U,U,U,U,U,U,U,U,U,U,U,U,U,U,U,U,U,U,U] rfl rfl (Zn HT_.out (by kernel_rfl)) (fun _ _ _ h => h) (Or.inl ⟨by rfl,?_⟩) ?_ ?_;rotate_left
              · intro w'
                go_simp;with_reducible rfl
              rotate_left
              · simp only [Act.put,YV,YW,YX,i64_w,i32_w]
                rfl
              refine pure_ (i := 4) (N := some 20) (v := ?_) (a' := ?_) #[Y,Y,Y,Y,Y,U,U,U,U,U,U,U,U,U,U,U,U,U,U,U,U,U,U,U,U,U,U,U,U,U,U] rfl rfl (Zn HT_.out (by kernel_rfl)) (fun _ _ _ h => h) (Or.inl ⟨by rfl,?_⟩) ?_ ?_;rotate_left
              · intro w'
                go_simp;with_reducible rfl
              rotate_left
              · simp only [Act.put,YV,YW,YX,i64_w,i32_w]
                rfl
              refine pure_ (i := 5) (N := some 21) (v := undef) (a' := ?_) #[Y,Y,Y,Y,Y,Y,U,U,U,U,U,U,U,U,U,U,U,U,U,U,U,U,U,U,U,U,U,U,U,U,U] rfl rfl (Zn HT_.out (by kernel_rfl)) (fun _ _ _ h => h) (Or.inr ⟨by rfl,rfl⟩) ?_ ?_;rotate_left
              · simp only [Act.put,YV,YW,YX,i64_w,i32_w]
                rfl
              refine pure_ (i := 6) (N := some 22) (v := undef) (a' := ?_) #[Y,Y,Y,Y,Y,Y,Y,U,U,U,U,U,U,U,U,U,U,U,U,U,U,U,U,U,U,U,U,U,U,U,U] rfl rfl (Zn HT_.out (by kernel_rfl)) (fun _ _ _ h => h) (Or.inr ⟨by rfl,rfl⟩) ?_ ?_;rotate_left
              · simp only [Act.put,YV,YW,YX,i64_w,i32_w]
                rfl
              refine pure_ (i := 7) (N := some 23) (v := undef) (a' := ?_) #[Y,Y,Y,Y,Y,Y,Y,Y,U,U,U,U,U,U,U,U,U,U,U,U,U,U,U,U,U,U,U,U,U,U,U] rfl rfl (Zn HT_.out (by kernel_rfl)) (fun _ _ _ h => h) (Or.inr ⟨by rfl,rfl⟩) ?_ ?_;rotate_left
              · simp only [Act.put,YV,YW,YX,i64_w,i32_w]
                rfl
              refine pure_ (i := 8) (N := some 24) (v := undef) (a' := ?_) #[Y,Y,Y,Y,Y,Y,Y,Y,Y,U,U,U,U,U,U,U,U,U,U,U,U,U,U,U,U,U,U,U,U,U,U] rfl rfl (Zn HT_.out (by kernel_rfl)) (fun _ _ _ h => h) (Or.inr ⟨by rfl,rfl⟩) ?_ ?_;rotate_left
              · simp only [Act.put,YV,YW,YX,i64_w,i32_w]
                rfl
              refine pure_ (i := 9) (N := some 25) (v := ?_) (a' := ?_) #[Y,Y,Y,Y,Y,Y,Y,Y,Y,Y,U,U,U,U,U,U,U,U,U,U,U,U,U,U,U,U,U,U,U,U,U] rfl rfl (Zn HT_.out (by kernel_rfl)) (fun _ _ _ h => h) (Or.inl ⟨by rfl,?_⟩) ?_ ?_;rotate_left
              · intro w'
                go_simp;with_reducible rfl
              rotate_left
              · simp only [Act.put,YV,YW,YX,i64_w,i32_w]
                rfl
              refine pure_ (i := 10) (N := some 26) (v := ?_) (a' := ?_) #[Y,Y,Y,Y,Y,Y,Y,Y,Y,Y,Y,U,U,U,U,U,U,U,U,U,U,U,U,U,U,U,U,U,U,U,U] rfl rfl (Zn HT_.out (by kernel_rfl)) (fun _ _ _ h => h) (Or.inl ⟨by rfl,?_⟩) ?_ ?_;rotate_left
              · intro w'
                go_simp;with_reducible rfl
              rotate_left
              · simp only [Act.put,YV,YW,YX,i64_w,i32_w]
                rfl
              refine pure_ (i := 11) (N := some 27) (v := undef) (a' := ?_) #[Y,Y,Y,Y,Y,Y,Y,Y,Y,Y,Y,Y,U,U,U,U,U,U,U,U,U,U,U,U,U,U,U,U,U,U,U] rfl rfl (Zn HT_.out (by kernel_rfl)) (fun _ _ _ h => h) (Or.inr ⟨by rfl,rfl⟩) ?_ ?_;rotate_left
              · simp only [Act.put,YV,YW,YX,i64_w,i32_w]
                rfl
              refine pure_ (i := 12) (N := some 28) (v := undef) (a' := ?_) #[Y,Y,Y,Y,Y,Y,Y,Y,Y,Y,Y,Y,Y,U,U,U,U,U,U,U,U,U,U,U,U,U,U,U,U,U,U] rfl rfl (Zn HT_.out (by kernel_rfl)) (fun _ _ _ h => h) (Or.inr ⟨by rfl,rfl⟩) ?_ ?_;rotate_left
              · simp only [Act.put,YV,YW,YX,i64_w,i32_w]
                rfl
              refine pure_ (i := 13) (N := some 29) (v := undef) (a' := ?_) #[Y,Y,Y,Y,Y,Y,Y,Y,Y,Y,Y,Y,Y,Y,U,U,U,U,U,U,U,U,U,U,U,U,U,U,U,U,U] rfl rfl (Zn HT_.out (by kernel_rfl)) (fun _ _ _ h => h) (Or.inr ⟨by rfl,rfl⟩) ?_ ?_;rotate_left
              · simp only [Act.put,YV,YW,YX,i64_w,i32_w]
                rfl
              refine pure_ (i := 14) (N := some 30) (v := undef) (a' := ?_) #[Y,Y,Y,Y,Y,Y,Y,Y,Y,Y,Y,Y,Y,Y,Y,U,U,U,U,U,U,U,U,U,U,U,U,U,U,U,U] rfl rfl (Zn HT_.out (by kernel_rfl)) (fun _ _ _ h => h) (Or.inr ⟨by rfl,rfl⟩) ?_ ?_;rotate_left
              · simp only [Act.put,YV,YW,YX,i64_w,i32_w]
                rfl
              refine pure_ (i := 15) (N := some 31) (v := ?_) (a' := ?_) #[Y,Y,Y,Y,Y,Y,Y,Y,Y,Y,Y,Y,Y,Y,Y,Y,U,U,U,U,U,U,U,U,U,U,U,U,U,U,U] rfl rfl (Zn HT_.out (by kernel_rfl)) (fun _ _ _ h => h) (Or.inl ⟨by rfl,?_⟩) ?_ ?_;rotate_left
              · intro w'
                go_simp;with_reducible rfl
              rotate_left
              · simp only [Act.put,YV,YW,YX,i64_w,i32_w]
                rfl
              refine pure_ (i := 16) (N := some 32) (v := ?_) (a' := ?_) #[Y,Y,Y,Y,Y,Y,Y,Y,Y,Y,Y,Y,Y,Y,Y,Y,Y,U,U,U,U,U,U,U,U,U,U,U,U,U,U] rfl rfl (Zn HT_.out (by kernel_rfl)) (fun _ _ _ h => h) (Or.inl ⟨by rfl,?_⟩) ?_ ?_;rotate_left
              · intro w'
                go_simp;with_reducible rfl
              rotate_left
              · simp only [Act.put,YV,YW,YX,i64_w,i32_w]
                rfl
              refine pure_ (i := 17) (N := some 33) (v := undef) (a' := ?_) #[Y,Y,Y,Y,Y,Y,Y,Y,Y,Y,Y,Y,Y,Y,Y,Y,Y,Y,U,U,U,U,U,U,U,U,U,U,U,U,U] rfl rfl (Zn HT_.out (by kernel_rfl)) (fun _ _ _ h => h) (Or.inr ⟨by rfl,rfl⟩) ?_ ?_;rotate_left
              · simp only [Act.put,YV,YW,YX,i64_w,i32_w]
                rfl
              refine pure_ (i := 18) (N := some 34) (v := undef) (a' := ?_) #[Y,Y,Y,Y,Y,Y,Y,Y,Y,Y,Y,Y,Y,Y,Y,Y,Y,Y,Y,U,U,U,U,U,U,U,U,U,U,U,U] rfl rfl (Zn HT_.out (by kernel_rfl)) (fun _ _ _ h => h) (Or.inr ⟨by rfl,rfl⟩) ?_ ?_;rotate_left
              · simp only [Act.put,YV,YW,YX,i64_w,i32_w]
                rfl
              refine pure_ (i := 19) (N := some 35) (v := undef) (a' := ?_) #[Y,Y,Y,Y,Y,Y,Y,Y,Y,Y,Y,Y,Y,Y,Y,Y,Y,Y,Y,Y,U,U,U,U,U,U,U,U,U,U,U] rfl rfl (Zn HT_.out (by kernel_rfl)) (fun _ _ _ h => h) (Or.inr ⟨by rfl,rfl⟩) ?_ ?_;rotate_left
              · simp only [Act.put,YV,YW,YX,i64_w,i32_w]
                rfl
              refine pure_ (i := 20) (N := some 36) (v := undef) (a' := ?_) #[Y,Y,Y,Y,Y,Y,Y,Y,Y,Y,Y,Y,Y,Y,Y,Y,Y,Y,Y,Y,Y,U,U,U,U,U,U,U,U,U,U] rfl rfl (Zn HT_.out (by kernel_rfl)) (fun _ _ _ h => h) (Or.inr ⟨by rfl,rfl⟩) ?_ ?_;rotate_left
              · simp only [Act.put,YV,YW,YX,i64_w,i32_w]
                rfl
              refine pure_ (i := 21) (N := some 37) (v := undef) (a' := ?_) #[Y,Y,Y,Y,Y,Y,Y,Y,Y,Y,Y,Y,Y,Y,Y,Y,Y,Y,Y,Y,Y,Y,U,U,U,U,U,U,U,U,U] rfl rfl (Zn HT_.out (by kernel_rfl)) (fun _ _ _ h => h) (Or.inr ⟨by rfl,rfl⟩) ?_ ?_;rotate_left
              · simp only [Act.put,YV,YW,YX,i64_w,i32_w]
                rfl
              refine pure_ (i := 22) (N := some 38) (v := undef) (a' := ?_) #[Y,Y,Y,Y,Y,Y,Y,Y,Y,Y,Y,Y,Y,Y,Y,Y,Y,Y,Y,Y,Y,Y,Y,U,U,U,U,U,U,U,U] rfl rfl (Zn HT_.out (by kernel_rfl)) (fun _ _ _ h => h) (Or.inr ⟨by rfl,rfl⟩) ?_ ?_;rotate_left
              · simp only [Act.put,YV,YW,YX,i64_w,i32_w]
                rfl
              refine pure_ (i := 23) (N := some 39) (v := undef) (a' := ?_) #[Y,Y,Y,Y,Y,Y,Y,Y,Y,Y,Y,Y,Y,Y,Y,Y,Y,Y,Y,Y,Y,Y,Y,Y,U,U,U,U,U,U,U] rfl rfl (Zn HT_.out (by kernel_rfl)) (fun _ _ _ h => h) (Or.inr ⟨by rfl,rfl⟩) ?_ ?_;rotate_left
              · simp only [Act.put,YV,YW,YX,i64_w,i32_w]
                rfl
              refine pure_ (i := 24) (N := some 40) (v := undef) (a' := ?_) #[Y,Y,Y,Y,Y,Y,Y,Y,Y,Y,Y,Y,Y,Y,Y,Y,Y,Y,Y,Y,Y,Y,Y,Y,Y,U,U,U,U,U,U] rfl rfl (Zn HT_.out (by kernel_rfl)) (fun _ _ _ h => h) (Or.inr ⟨by rfl,rfl⟩) ?_ ?_;rotate_left
              · simp only [Act.put,YV,YW,YX,i64_w,i32_w]
                rfl
              refine pure_ (i := 25) (N := some 41) (v := undef) (a' := ?_) #[Y,Y,Y,Y,Y,Y,Y,Y,Y,Y,Y,Y,Y,Y,Y,Y,Y,Y,Y,Y,Y,Y,Y,Y,Y,Y,U,U,U,U,U] rfl rfl (Zn HT_.out (by kernel_rfl)) (fun _ _ _ h => h) (Or.inr ⟨by rfl,rfl⟩) ?_ ?_;rotate_left
              · simp only [Act.put,YV,YW,YX,i64_w,i32_w]
                rfl
              refine pure_ (i := 26) (N := some 42) (v := undef) (a' := ?_) #[Y,Y,Y,Y,Y,Y,Y,Y,Y,Y,Y,Y,Y,Y,Y,Y,Y,Y,Y,Y,Y,Y,Y,Y,Y,Y,Y,U,U,U,U] rfl rfl (Zn HT_.out (by kernel_rfl)) (fun _ _ _ h => h) (Or.inr ⟨by rfl,rfl⟩) ?_ ?_;rotate_left
              · simp only [Act.put,YV,YW,YX,i64_w,i32_w]
                rfl
              refine pure_ (i := 27) (N := some 43) (v := undef) (a' := ?_) #[Y,Y,Y,Y,Y,Y,Y,Y,Y,Y,Y,Y,Y,Y,Y,Y,Y,Y,Y,Y,Y,Y,Y,Y,Y,Y,Y,Y,U,U,U] rfl rfl (Zn HT_.out (by kernel_rfl)) (fun _ _ _ h => h) (Or.inr ⟨by rfl,rfl⟩) ?_ ?_;rotate_left
              · simp only [Act.put,YV,YW,YX,i64_w,i32_w]
                rfl
              refine pure_ (i := 28) (N := some 44) (v := undef) (a' := ?_) #[Y,Y,Y,Y,Y,Y,Y,Y,Y,Y,Y,Y,Y,Y,Y,Y,Y,Y,Y,Y,Y,Y,Y,Y,Y,Y,Y,Y,Y,U,U] rfl rfl (Zn HT_.out (by kernel_rfl)) (fun _ _ _ h => h) (Or.inr ⟨by rfl,rfl⟩) ?_ ?_;rotate_left
              · simp only [Act.put,YV,YW,YX,i64_w,i32_w]
                rfl
              refine pure_ (i := 29) (N := some 45) (v := undef) (a' := ?_) #[Y,Y,Y,Y,Y,Y,Y,Y,Y,Y,Y,Y,Y,Y,Y,Y,Y,Y,Y,Y,Y,Y,Y,Y,Y,Y,Y,Y,Y,Y,U] rfl rfl (Zn HT_.out (by kernel_rfl)) (fun _ _ _ h => h) (Or.inr ⟨by rfl,rfl⟩) ?_ ?_;rotate_left
              · simp only [Act.put,YV,YW,YX,i64_w,i32_w]
                rfl
              refine pure_ (i := 30) (N := some 46) (v := ?_) (a' := ?_) #[Y,Y,Y,Y,Y,Y,Y,Y,Y,Y,Y,Y,Y,Y,Y,Y,Y,Y,Y,Y,Y,Y,Y,Y,Y,Y,Y,Y,Y,Y,Y] rfl rfl (Zn HT_.out (by kernel_rfl)) (fun _ _ _ h => h) (Or.inl ⟨by rfl,?_⟩) ?_ ?_;rotate_left
              · intro w'
                go_simp;with_reducible rfl
              rotate_left
              · simp only [Act.put,YV,YW,YX,i64_w,i32_w]
                rfl
              refine done_ (XA HT_.out (by kernel_rfl)) ?_
              try go_wp2
              go_meet
              case rel => exact ⟨_,(true),(by first | rfl | (simp;done) | (simp [*];done)),H',⟨by have := HK1.out;first | omega | exact Nat.le_refl _⟩,⟨by (with_reducible repeat (first | refine Zu ?_ _ | refine Zw ?_ | refine Zs ?_ _));exact BK337.out⟩,⟨by repeat (first | (with_reducible first | exact HB.out | apply Zc | apply Za | apply Zb | refine Z9 ?_ GE337.out) | exact HB.out)⟩⟩
           case rest =>
            clear HC7
            (try clear c1); (try clear p2); (try clear c4); (try clear c11); (try clear c13)
            obtain ⟨kq,x46_6,rfl,HA,HJ6,BK337,HB⟩ := hcut
            cases kq with
            | zero => exact absurd HA.out (by simp [Zk.j1])
            | succ kj6 =>
             have H := HA.out;clear HA;simp only [Zk.j1] at H
             by_cases c30 : x46_6 = true
             · subst c30
               have H1 : (some false) = some r := by rw [if_pos rfl] at H;exact H
               clear H;have H := H1;clear H1;obtain rfl := Option.some.inj H
               go_wp2
               go_ret;exact ⟨by first | rfl | (simp [Zt,Zv] <;> rfl) | (simp [*,Zt,Zv] <;> rfl),by repeat (first | (with_reducible first | exact HB.out | apply Zc | apply Za | apply Zb | refine Z9 ?_ GE337.out) | exact HB.out)⟩
             · replace c30 := Bool.eq_false_iff.mpr c30
               subst c30
               have H1 : (if ((Ze l0 x11_1).f2) = 2 then (if (wrap64 (x11_1 + 1)) < (l0.length : Int) then (if 0 ≤ (wrap64 (x11_1 + 1)) then (if (wrap64 (((Ze l0 (wrap64 (x11_1 + 1))).f0) - ((Ze l0 x11_1).f0))) > 1000 then (some false) else (Zk.l0 kj6 l0 l0 (l0.length : Int) (wrap64 (x11_1 + 1)))) else (none)) else (Zk.l0 kj6 l0 l0 (l0.length : Int) (wrap64 (x11_1 + 1)))) else (Zk.l0 kj6 l0 l0 (l0.length : Int) (wrap64 (x11_1 + 1)))) = some r := by rw [if_neg (show ¬ (false = true) by decide)] at H;exact H
               clear H;have H := H1;clear H1
               by_cases c31 : ((Ze l0 x11_1).f2) = 2
               · rw [if_pos c31] at H
                 have c31b0 : (((Ze l0 x11_1).f2) == 2) = true := beq_iff_eq.mpr c31;have c31b1 : (((Ze l0 x11_1).f2) != 2) = false := bne_eq_false_iff_eq.mpr c31;clear c31
                 by_cases c32 : (wrap64 (x11_1 + 1)) < (l0.length : Int)
                 · rw [if_pos c32] at H
                   have c32b0 : decide ((wrap64 (x11_1 + 1)) < (l0.length : Int)) = true := decide_eq_true c32;clear c32
                   obtain ⟨ji33,hji33⟩ : ∃ j_ : Int,(wrap64 (x11_1 + 1)) = j_ := ⟨_,rfl⟩
                   replace H : (if 0 ≤ (ji33) then (if (wrap64 (((Ze l0 (ji33)).f0) - ((Ze l0 x11_1).f0))) > 1000 then (some false) else (Zk.l0 kj6 l0 l0 (l0.length : Int) ji33)) else (none)) = some r := by first | (rw [hji33] at H;exact H) | (simp only [hji33] at H ⊢;exact H)
                   (try rw [hji33] at c32b0)
                   have hji33w : (IntKind.i64.wrap (x11_1 + 1)) = ji33 := (i64_w _).trans hji33
                   by_cases c34 : 0 ≤ (ji33)
                   · rw [if_pos c34] at H
                     have c34b0 : decide (0 ≤ (ji33)) = true := decide_eq_true c34;clear c34
                     by_cases c35 : (wrap64 (((Ze l0 (ji33)).f0) - ((Ze l0 x11_1).f0))) > 1000
                     · rw [if_pos c35] at H
                       have c35b0 : decide (1000 < (wrap64 (((Ze l0 (ji33)).f0) - ((Ze l0 x11_1).f0)))) = true := decide_eq_true c35;clear c35;obtain rfl := Option.some.inj H
                       try go_wp2
                       have n0_ := Zd.mk (Zw BK337.out);have n1_ := Zd.mk (Zb HB.out);clear BK337;clear HB;have BK337 := n0_;have HB := n1_;clear n0_ n1_;have p342 : 0 ≤ ((ji33) : Int) := of_decide_eq_true (by first | (with_reducible assumption) | assumption);have q342 : (ji33) < (l0.length : Int) := of_decide_eq_true (by first | (with_reducible assumption) | assumption);obtain ⟨ad342,e342,hx342_0,hx342_1,hx342_2⟩ := Xg HR0.out (ji33) p342 q342;have hw342_2 := hx342_2;have hw342_1 := hx342_1;have hw342_0 := hx342_0
                       obtain rfl : ad336 = ad342 := (by injection e342)
                       replace hx342_0 := (HB.out.cell (World.block_lt_of_cell? w _ hx342_0)).trans hx342_0;replace hx342_1 := (HB.out.cell (World.block_lt_of_cell? w _ hx342_1)).trans hx342_1;replace hx342_2 := (HB.out.cell (World.block_lt_of_cell? w _ hx342_2)).trans hx342_2;replace p342 := eq_true p342;replace q342 := eq_true q342;refine XE (n := 22) (S := fun w' => w'.cell? ⟨gb337,0,none⟩ = some (.int .i64 ((Ze l0 x11_1).f0)) ∧ w'.cell? ⟨gb337,1,none⟩ = some (.int .i64 ((Ze l0 x11_1).f1)) ∧ w'.cell? ⟨gb337,2,none⟩ = some (.int .i64 ((Ze l0 x11_1).f2)) ∧ w'.cell? (ad336.add (((ji33)).toNat * 3)) = some (.int .i64 ((Ze l0 (ji33)).f0)) ∧ w'.cell? ⟨(ad336.add (((ji33)).toNat * 3)).block,(ad336.add (((ji33)).toNat * 3)).off + 1,none⟩ = some (.int .i64 ((Ze l0 (ji33)).f1)) ∧ w'.cell? ⟨(ad336.add (((ji33)).toNat * 3)).block,(ad336.add (((ji33)).toNat * 3)).off + 2,none⟩ = some (.int .i64 ((Ze l0 (ji33)).f2))) (ds := []) #[U,U,U,U,U,U,U,U,U,U,U,U,U,U,U,U,U,U,U,U,U,U] (by kernel_rfl) rfl rfl ⟨(Zm BK337.out 0).trans rfl,(Zm BK337.out 1).trans rfl,(Zm BK337.out 2).trans rfl,((HB.out.cell (World.block_lt_of_cell? w _ hw342_0)).trans hw342_0),((HB.out.cell (World.block_lt_of_cell? w _ hw342_1)).trans hw342_1),((HB.out.cell (World.block_lt_of_cell? w _ hw342_2)).trans hw342_2)⟩ (fun hHeld => ?_);refine X2 Zk.tab8 Zk.bits8 (fun HT_ HW_ => ?_);generalize wc.drew = w36 at BK337 HB hx342_0 hx342_1 hx342_2 hHeld ⊢;refine pure_ (i := 0) (N := some 47) (v := ?_) (a' := ?_) #[Y,U,U,U,U,U,U,U,U,U,U,U,U,U,U,U,U,U,U,U,U,U] rfl rfl (Zn HT_.out (by kernel_rfl)) (fun _ _ _ h => h) (Or.inl ⟨by rfl,?_⟩) ?_ ?_;rotate_left
                       · intro w'
                         go_simp;with_reducible rfl
                       rotate_left
                       · simp only [Act.put,YV,YW,YX,i64_w,i32_w]
                         rfl
                       refine take_ (i := 1) (N := some 48) (v := ?_) (a' := ?_) #[Y,Y,U,U,U,U,U,U,U,U,U,U,U,U,U,U,U,U,U,U,U,U] rfl rfl (Xh HT_.out HW_.out (by kernel_rfl)) (fun _ _ _ h => h) (Or.inl ⟨by rfl,?_⟩) hHeld ?_ ?_;rotate_left
                       · rintro w' ⟨s0,s1,s2,s3,s4,s5⟩
                         go_simp;with_reducible rfl
                       rotate_left
                       · simp only [Act.put,YV,YW,YX,i64_w,i32_w]
                         rfl
                       refine pure_ (i := 2) (N := some 49) (v := ?_) (a' := ?_) #[Y,Y,Y,U,U,U,U,U,U,U,U,U,U,U,U,U,U,U,U,U,U,U] rfl rfl (Zn HT_.out (by kernel_rfl)) (fun _ _ _ h => h) (Or.inl ⟨by rfl,?_⟩) ?_ ?_;rotate_left
                       · intro w'
                         go_simp;with_reducible rfl
                       rotate_left
                       · simp only [Act.put,YV,YW,YX,i64_w,i32_w]
                         rfl
                       refine pure_ (i := 3) (N := some 50) (v := ?_) (a' := ?_) #[Y,Y,Y,Y,U,U,U,U,U,U,U,U,U,U,U,U,U,U,U,U,U,U] rfl rfl (Zn HT_.out (by kernel_rfl)) (fun _ _ _ h => h) (Or.inl ⟨by rfl,?_⟩) ?_ ?_;rotate_left
                       · intro w'
                         go_simp;with_reducible rfl
                       rotate_left
                       · simp only [Act.put,YV,YW,YX,i64_w,i32_w]
                         rfl
                       refine pure_ (i := 4) (N := some 51) (v := ?_) (a' := ?_) #[Y,Y,Y,Y,Y,U,U,U,U,U,U,U,U,U,U,U,U,U,U,U,U,U] rfl rfl (Zn HT_.out (by kernel_rfl)) (fun _ _ _ h => h) (Or.inl ⟨by rfl,?_⟩) ?_ ?_;rotate_left
                       · intro w'
                         go_simp;with_reducible rfl
                       rotate_left
                       · simp only [Act.put,YV,YW,YX,i64_w,i32_w]
                         rfl
                       refine pure_ (i := 5) (N := some 52) (v := ?_) (a' := ?_) #[Y,Y,Y,Y,Y,Y,U,U,U,U,U,U,U,U,U,U,U,U,U,U,U,U] rfl rfl (Zn HT_.out (by kernel_rfl)) (fun _ _ _ h => h) (Or.inl ⟨by rfl,?_⟩) ?_ ?_;rotate_left
                       · intro w'
                         go_simp;with_reducible rfl
                       rotate_left
                       · simp only [Act.put,YV,YW,YX,i64_w,i32_w]
                         rfl
                       refine pure_ (i := 6) (N := some 53) (v := ?_) (a' := ?_) #[Y,Y,Y,Y,Y,Y,Y,U,U,U,U,U,U,U,U,U,U,U,U,U,U,U] rfl rfl (Zn HT_.out (by kernel_rfl)) (fun _ _ _ h => h) (Or.inl ⟨by rfl,?_⟩) ?_ ?_;rotate_left
                       · intro w'
                         go_simp;with_reducible rfl
                       rotate_left
                       · simp only [Act.put,YV,YW,YX,i64_w,i32_w]
                         rfl
                       refine pure_ (i := 7) (N := some 54) (v := ?_) (a' := ?_) #[Y,Y,Y,Y,Y,Y,Y,Y,U,U,U,U,U,U,U,U,U,U,U,U,U,U] rfl rfl (Zn HT_.out (by kernel_rfl)) (fun _ _ _ h => h) (Or.inl ⟨by rfl,?_⟩) ?_ ?_;rotate_left
                       · intro w'
                         go_simp;with_reducible rfl
                       rotate_left
                       · simp only [Act.put,YV,YW,YX,i64_w,i32_w]
                         rfl
                       refine pure_ (i := 8) (N := some 55) (v := ?_) (a' := ?_) #[Y,Y,Y,Y,Y,Y,Y,Y,Y,U,U,U,U,U,U,U,U,U,U,U,U,U] rfl rfl (Zn HT_.out (by kernel_rfl)) (fun _ _ _ h => h) (Or.inl ⟨by rfl,?_⟩) ?_ ?_;rotate_left
                       · intro w'
                         go_simp;with_reducible rfl
                       rotate_left
                       · simp only [Act.put,YV,YW,YX,i64_w,i32_w]
                         rfl
                       refine pure_ (i := 9) (N := some 56) (v := ?_) (a' := ?_) #[Y,Y,Y,Y,Y,Y,Y,Y,Y,Y,U,U,U,U,U,U,U,U,U,U,U,U] rfl rfl (Zn HT_.out (by kernel_rfl)) (fun _ _ _ h => h) (Or.inl ⟨by rfl,?_⟩) ?_ ?_;rotate_left
                       · intro w'
                         go_simp;with_reducible rfl
                       rotate_left
                       · simp only [Act.put,YV,YW,YX,i64_w,i32_w]
                         rfl
                       refine pure_ (i := 10) (N := some 57) (v := ?_) (a' := ?_) #[Y,Y,Y,Y,Y,Y,Y,Y,Y,Y,Y,U,U,U,U,U,U,U,U,U,U,U] rfl rfl (Zn HT_.out (by kernel_rfl)) (fun _ _ _ h => h) (Or.inl ⟨by rfl,?_⟩) ?_ ?_;rotate_left
                       · intro w'
                         go_simp;with_reducible rfl
                       rotate_left
                       · simp only [Act.put,YV,YW,YX,i64_w,i32_w]
                         rfl
                       refine pure_ (i := 11) (N := some 58) (v := ?_) (a' := ?_) #[Y,Y,Y,Y,Y,Y,Y,Y,Y,Y,Y,Y,U,U,U,U,U,U,U,U,U,U] rfl rfl (Zn HT_.out (by kernel_rfl)) (fun _ _ _ h => h) (Or.inl ⟨by rfl,?_⟩) ?_ ?_;rotate_left
                       · intro w'
                         go_simp;with_reducible rfl
                       rotate_left
                       · simp only [Act.put,YV,YW,YX,i64_w,i32_w]
                         rfl
                       refine pure_ (i := 12) (N := some 59) (v := ?_) (a' := ?_) #[Y,Y,Y,Y,Y,Y,Y,Y,Y,Y,Y,Y,Y,U,U,U,U,U,U,U,U,U] rfl rfl (Zn HT_.out (by kernel_rfl)) (fun _ _ _ h => h) (Or.inl ⟨by rfl,?_⟩) ?_ ?_;rotate_left
                       · intro w'
                         go_simp;with_reducible rfl
                       rotate_left
                       · simp only [Act.put,YV,YW,YX,i64_w,i32_w]
                         rfl
                       refine pure_ (i := 13) (N := some 60) (v := ?_) (a' := ?_) #[Y,Y,Y,Y,Y,Y,Y,Y,Y,Y,Y,Y,Y,Y,U,U,U,U,U,U,U,U] rfl rfl (Zn HT_.out (by kernel_rfl)) (fun _ _ _ h => h) (Or.inl ⟨by rfl,?_⟩) ?_ ?_;rotate_left
                       · intro w'
                         go_simp;with_reducible rfl
                       rotate_left
                       · simp only [Act.put,YV,YW,YX,i64_w,i32_w]
                         rfl
                       refine pure_ (i := 14) (N := some 61) (v := ?_) (a' := ?_) #[Y,Y,Y,Y,Y,Y,Y,Y,Y,Y,Y,Y,Y,Y,Y,U,U,U,U,U,U,U] rfl rfl (Zn HT_.out (by kernel_rfl)) (fun _ _ _ h => h) (Or.inl ⟨by rfl,?_⟩) ?_ ?_;rotate_left
                       · intro w'
                         go_simp;with_reducible rfl
                       rotate_left
                       · simp only [Act.put,YV,YW,YX,i64_w,i32_w]
                         rfl
                       refine pure_ (i := 15) (N := some 62) (v := ?_) (a' := ?_) #[Y,Y,Y,Y,Y,Y,Y,Y,Y,Y,Y,Y,Y,Y,Y,Y,U,U,U,U,U,U] rfl rfl (Zn HT_.out (by kernel_rfl)) (fun _ _ _ h => h) (Or.inl ⟨by rfl,?_⟩) ?_ ?_;rotate_left
                       · intro w'
                         go_simp;with_reducible rfl
                       rotate_left
                       · simp only [Act.put,YV,YW,YX,i64_w,i32_w]
                         rfl
                       refine pure_ (i := 17) (N := some 64) (v := ?_) (a' := ?_) #[Y,Y,Y,Y,Y,Y,Y,Y,Y,Y,Y,Y,Y,Y,Y,Y,U,Y,U,U,U,U] rfl rfl (Zn HT_.out (by kernel_rfl)) (fun _ _ _ h => h) (Or.inl ⟨by rfl,?_⟩) ?_ ?_;rotate_left
                       · intro w'
                         go_simp;with_reducible rfl
                       rotate_left
                       · simp only [Act.put,YV,YW,YX,i64_w,i32_w]
                         rfl
                       refine take_ (i := 16) (N := some 63) (v := ?_) (a' := ?_) #[Y,Y,Y,Y,Y,Y,Y,Y,Y,Y,Y,Y,Y,Y,Y,Y,Y,Y,U,U,U,U] rfl rfl (Xh HT_.out HW_.out (by kernel_rfl)) (fun _ _ _ h => h) (Or.inl ⟨by rfl,?_⟩) hHeld ?_ ?_;rotate_left
                       · rintro w' ⟨s0,s1,s2,s3,s4,s5⟩
                         go_simp;with_reducible rfl
                       rotate_left
                       · simp only [Act.put,YV,YW,YX,i64_w,i32_w]
                         rfl
                       refine take_ (i := 18) (N := some 65) (v := ?_) (a' := ?_) #[Y,Y,Y,Y,Y,Y,Y,Y,Y,Y,Y,Y,Y,Y,Y,Y,Y,Y,Y,U,U,U] rfl rfl (Xh HT_.out HW_.out (by kernel_rfl)) (fun _ _ _ h => h) (Or.inl ⟨by rfl,?_⟩) hHeld ?_ ?_;rotate_left
                       · rintro w' ⟨s0,s1,s2,s3,s4,s5⟩
                         go_simp;with_reducible rfl
                       rotate_left
                       · simp only [Act.put,YV,YW,YX,i64_w,i32_w]
                         rfl
                       refine pure_ (i := 19) (N := some 66) (v := ?_) (a' := ?_) #[Y,Y,Y,Y,Y,Y,Y,Y,Y,Y,Y,Y,Y,Y,Y,Y,Y,Y,Y,Y,U,U] rfl rfl (Zn HT_.out (by kernel_rfl)) (fun _ _ _ h => h) (Or.inl ⟨by rfl,?_⟩) ?_ ?_;rotate_left
                       · intro w'
                         go_simp;with_reducible rfl
                       rotate_left
                       · simp only [Act.put,YV,YW,YX,i64_w,i32_w]
                         rfl
                       refine pure_ (i := 20) (N := some 67) (v := ?_) (a' := ?_) #[Y,Y,Y,Y,Y,Y,Y,Y,Y,Y,Y,Y,Y,Y,Y,Y,Y,Y,Y,Y,Y,U] rfl rfl (Zn HT_.out (by kernel_rfl)) (fun _ _ _ h => h) (Or.inl ⟨by rfl,?_⟩) ?_ ?_;rotate_left
                       · intro w'
                         go_simp;with_reducible rfl
                       rotate_left
                       · simp only [Act.put,YV,YW,YX,i64_w,i32_w]
                         rfl
                       refine pure_ (i := 21) (N := some 68) (v := ?_) (a' := ?_) #[Y,Y,Y,Y,Y,Y,Y,Y,Y,Y,Y,Y,Y,Y,Y,Y,Y,Y,Y,Y,Y,Y] rfl rfl (Zn HT_.out (by kernel_rfl)) (fun _ _ _ h => h) (Or.inl ⟨by rfl,?_⟩) ?_ ?_;rotate_left
                       · intro w'
                         go_simp;with_reducible rfl
                       rotate_left
                       · simp only [Act.put,YV,YW,YX,i64_w,i32_w]
                         rfl
                       refine done_ (XA HT_.out (by kernel_rfl)) ?_
                       try go_wp2
                       go_ret;exact ⟨by first | rfl | (simp [Zt,Zv] <;> rfl) | (simp only [← hji33];first | rfl | (simp [Zt,Zv] <;> rfl)) | (simp [*,Zt,Zv] <;> rfl),by repeat (first | (with_reducible first | exact HB.out | apply Zc | apply Za | apply Zb | refine Z9 ?_ GE337.out) | exact HB.out)⟩
                     · rw [if_neg c35] at H
                       have c35b0 : decide (1000 < (wrap64 (((Ze l0 (ji33)).f0) - ((Ze l0 x11_1).f0)))) = false := decide_eq_false c35;clear c35;have H' := Zd.mk H;clear H
                       try go_wp2
                       have n0_ := Zd.mk (Zw BK337.out);have n1_ := Zd.mk (Zb HB.out);clear BK337;clear HB;have BK337 := n0_;have HB := n1_;clear n0_ n1_;have p342 : 0 ≤ ((ji33) : Int) := of_decide_eq_true (by first | (with_reducible assumption) | assumption);have q342 : (ji33) < (l0.length : Int) := of_decide_eq_true (by first | (with_reducible assumption) | assumption);obtain ⟨ad342,e342,hx342_0,hx342_1,hx342_2⟩ := Xg HR0.out (ji33) p342 q342;have hw342_2 := hx342_2;have hw342_1 := hx342_1;have hw342_0 := hx342_0
                       obtain rfl : ad336 = ad342 := (by injection e342)
                       replace hx342_0 := (HB.out.cell (World.block_lt_of_cell? w _ hx342_0)).trans hx342_0;replace hx342_1 := (HB.out.cell (World.block_lt_of_cell? w _ hx342_1)).trans hx342_1;replace hx342_2 := (HB.out.cell (World.block_lt_of_cell? w _ hx342_2)).trans hx342_2;replace p342 := eq_true p342;replace q342 := eq_true q342;refine XE (n := 22) (S := fun w' => w'.cell? ⟨gb337,0,none⟩ = some (.int .i64 ((Ze l0 x11_1).f0)) ∧ w'.cell? ⟨gb337,1,none⟩ = some (.int .i64 ((Ze l0 x11_1).f1)) ∧ w'.cell? ⟨gb337,2,none⟩ = some (.int .i64 ((Ze l0 x11_1).f2)) ∧ w'.cell? (ad336.add (((ji33)).toNat * 3)) = some (.int .i64 ((Ze l0 (ji33)).f0)) ∧ w'.cell? ⟨(ad336.add (((ji33)).toNat * 3)).block,(ad336.add (((ji33)).toNat * 3)).off + 1,none⟩ = some (.int .i64 ((Ze l0 (ji33)).f1)) ∧ w'.cell? ⟨(ad336.add (((ji33)).toNat * 3)).block,(ad336.add (((ji33)).toNat * 3)).off + 2,none⟩ = some (.int .i64 ((Ze l0 (ji33)).f2))) (ds := []) #[U,U,U,U,U,U,U,U,U,U,U,U,U,U,U,U,U,U,U,U,U,U] (by kernel_rfl) rfl rfl ⟨(Zm BK337.out 0).trans rfl,(Zm BK337.out 1).trans rfl,(Zm BK337.out 2).trans rfl,((HB.out.cell (World.block_lt_of_cell? w _ hw342_0)).trans hw342_0),((HB.out.cell (World.block_lt_of_cell? w _ hw342_1)).trans hw342_1),((HB.out.cell (World.block_lt_of_cell? w _ hw342_2)).trans hw342_2)⟩ (fun hHeld => ?_);refine X2 Zk.tab8 Zk.bits8 (fun HT_ HW_ => ?_);generalize wc.drew = w37 at BK337 HB hx342_0 hx342_1 hx342_2 hHeld ⊢;refine pure_ (i := 0) (N := some 47) (v := ?_) (a' := ?_) #[Y,U,U,U,U,U,U,U,U,U,U,U,U,U,U,U,U,U,U,U,U,U] rfl rfl (Zn HT_.out (by kernel_rfl)) (fun _ _ _ h => h) (Or.inl ⟨by rfl,?_⟩) ?_ ?_;rotate_left
                       · intro w'
                         go_simp;with_reducible rfl
                       rotate_left
                       · simp only [Act.put,YV,YW,YX,i64_w,i32_w]
                         rfl
                       refine take_ (i := 1) (N := some 48) (v := ?_) (a' := ?_) #[Y,Y,U,U,U,U,U,U,U,U,U,U,U,U,U,U,U,U,U,U,U,U] rfl rfl (Xh HT_.out HW_.out (by kernel_rfl)) (fun _ _ _ h => h) (Or.inl ⟨by rfl,?_⟩) hHeld ?_ ?_;rotate_left
                       · rintro w' ⟨s0,s1,s2,s3,s4,s5⟩
                         go_simp;with_reducible rfl
                       rotate_left
                       · simp only [Act.put,YV,YW,YX,i64_w,i32_w]
                         rfl
                       refine pure_ (i := 2) (N := some 49) (v := ?_) (a' := ?_) #[Y,Y,Y,U,U,U,U,U,U,U,U,U,U,U,U,U,U,U,U,U,U,U] rfl rfl (Zn HT_.out (by kernel_rfl)) (fun _ _ _ h => h) (Or.inl ⟨by rfl,?_⟩) ?_ ?_;rotate_left
                       · intro w'
                         go_simp;with_reducible rfl
                       rotate_left
                       · simp only [Act.put,YV,YW,YX,i64_w,i32_w]
                         rfl
                       refine pure_ (i := 3) (N := some 50) (v := ?_) (a' := ?_) #[Y,Y,Y,Y,U,U,U,U,U,U,U,U,U,U,U,U,U,U,U,U,U,U] rfl rfl (Zn HT_.out (by kernel_rfl)) (fun _ _ _ h => h) (Or.inl ⟨by rfl,?_⟩) ?_ ?_;rotate_left
                       · intro w'
                         go_simp;with_reducible rfl
                       rotate_left
                       · simp only [Act.put,YV,YW,YX,i64_w,i32_w]
                         rfl
                       refine pure_ (i := 4) (N := some 51) (v := ?_) (a' := ?_) #[Y,Y,Y,Y,Y,U,U,U,U,U,U,U,U,U,U,U,U,U,U,U,U,U] rfl rfl (Zn HT_.out (by kernel_rfl)) (fun _ _ _ h => h) (Or.inl ⟨by rfl,?_⟩) ?_ ?_;rotate_left
                       · intro w'
                         go_simp;with_reducible rfl
                       rotate_left
                       · simp only [Act.put,YV,YW,YX,i64_w,i32_w]
                         rfl
                       refine pure_ (i := 5) (N := some 52) (v := ?_) (a' := ?_) #[Y,Y,Y,Y,Y,Y,U,U,U,U,U,U,U,U,U,U,U,U,U,U,U,U] rfl rfl (Zn HT_.out (by kernel_rfl)) (fun _ _ _ h => h) (Or.inl ⟨by rfl,?_⟩) ?_ ?_;rotate_left
                       · intro w'
                         go_simp;with_reducible rfl
                       rotate_left
                       · simp only [Act.put,YV,YW,YX,i64_w,i32_w]
                         rfl
                       refine pure_ (i := 6) (N := some 53) (v := ?_) (a' := ?_) #[Y,Y,Y,Y,Y,Y,Y,U,U,U,U,U,U,U,U,U,U,U,U,U,U,U] rfl rfl (Zn HT_.out (by kernel_rfl)) (fun _ _ _ h => h) (Or.inl ⟨by rfl,?_⟩) ?_ ?_;rotate_left
                       · intro w'
                         go_simp;with_reducible rfl
                       rotate_left
                       · simp only [Act.put,YV,YW,YX,i64_w,i32_w]
                         rfl
                       refine pure_ (i := 7) (N := some 54) (v := ?_) (a' := ?_) #[Y,Y,Y,Y,Y,Y,Y,Y,U,U,U,U,U,U,U,U,U,U,U,U,U,U] rfl rfl (Zn HT_.out (by kernel_rfl)) (fun _ _ _ h => h) (Or.inl ⟨by rfl,?_⟩) ?_ ?_;rotate_left
                       · intro w'
                         go_simp;with_reducible rfl
                       rotate_left
                       · simp only [Act.put,YV,YW,YX,i64_w,i32_w]
                         rfl
                       refine pure_ (i := 8) (N := some 55) (v := ?_) (a' := ?_) #[Y,Y,Y,Y,Y,Y,Y,Y,Y,U,U,U,U,U,U,U,U,U,U,U,U,U] rfl rfl (Zn HT_.out (by kernel_rfl)) (fun _ _ _ h => h) (Or.inl ⟨by rfl,?_⟩) ?_ ?_;rotate_left
                       · intro w'
                         go_simp;with_reducible rfl
                       rotate_left
                       · simp only [Act.put,YV,YW,YX,i64_w,i32_w]
                         rfl
                       refine pure_ (i := 9) (N := some 56) (v := ?_) (a' := ?_) #[Y,Y,Y,Y,Y,Y,Y,Y,Y,Y,U,U,U,U,U,U,U,U,U,U,U,U] rfl rfl (Zn HT_.out (by kernel_rfl)) (fun _ _ _ h => h) (Or.inl ⟨by rfl,?_⟩) ?_ ?_;rotate_left
                       · intro w'
                         go_simp;with_reducible rfl
                       rotate_left
                       · simp only [Act.put,YV,YW,YX,i64_w,i32_w]
                         rfl
                       refine pure_ (i := 10) (N := some 57) (v := ?_) (a' := ?_) #[Y,Y,Y,Y,Y,Y,Y,Y,Y,Y,Y,U,U,U,U,U,U,U,U,U,U,U] rfl rfl (Zn HT_.out (by kernel_rfl)) (fun _ _ _ h => h) (Or.inl ⟨by rfl,?_⟩) ?_ ?_;rotate_left
                       · intro w'
                         go_simp;with_reducible rfl
                       rotate_left
                       · simp only [Act.put,YV,YW,YX,i64_w,i32_w]
                         rfl
                       refine pure_ (i := 11) (N := some 58) (v := ?_) (a' := ?_) #[Y,Y,Y,Y,Y,Y,Y,Y,Y,Y,Y,Y,U,U,U,U,U,U,U,U,U,U] rfl rfl (Zn HT_.out (by kernel_rfl)) (fun _ _ _ h => h) (Or.inl ⟨by rfl,?_⟩) ?_ ?_;rotate_left
                       · intro w'
                         go_simp;with_reducible rfl
                       rotate_left
                       · simp only [Act.put,YV,YW,YX,i64_w,i32_w]
                         rfl
                       refine pure_ (i := 12) (N := some 59) (v := ?_) (a' := ?_) #[Y,Y,Y,Y,Y,Y,Y,Y,Y,Y,Y,Y,Y,U,U,U,U,U,U,U,U,U] rfl rfl (Zn HT_.out (by kernel_rfl)) (fun _ _ _ h => h) (Or.inl ⟨by rfl,?_⟩) ?_ ?_;rotate_left
                       · intro w'
                         go_simp;with_reducible rfl
                       rotate_left
                       · simp only [Act.put,YV,YW,YX,i64_w,i32_w]
                         rfl
                       refine pure_ (i := 13) (N := some 60) (v := ?_) (a' := ?_) #[Y,Y,Y,Y,Y,Y,Y,Y,Y,Y,Y,Y,Y,Y,U,U,U,U,U,U,U,U] rfl rfl (Zn HT_.out (by kernel_rfl)) (fun _ _ _ h => h) (Or.inl ⟨by rfl,?_⟩) ?_ ?_;rotate_left
                       · intro w'
                         go_simp;with_reducible rfl
                       rotate_left
                       · simp only [Act.put,YV,YW,YX,i64_w,i32_w]
                         rfl
                       refine pure_ (i := 14) (N := some 61) (v := ?_) (a' := ?_) #[Y,Y,Y,Y,Y,Y,Y,Y,Y,Y,Y,Y,Y,Y,Y,U,U,U,U,U,U,U] rfl rfl (Zn HT_.out (by kernel_rfl)) (fun _ _ _ h => h) (Or.inl ⟨by rfl,?_⟩) ?_ ?_;rotate_left
                       · intro w'
                         go_simp;with_reducible rfl
                       rotate_left
                       · simp only [Act.put,YV,YW,YX,i64_w,i32_w]
                         rfl
                       refine pure_ (i := 15) (N := some 62) (v := ?_) (a' := ?_) #[Y,Y,Y,Y,Y,Y,Y,Y,Y,Y,Y,Y,Y,Y,Y,Y,U,U,U,U,U,U] rfl rfl (Zn HT_.out (by kernel_rfl)) (fun _ _ _ h => h) (Or.inl ⟨by rfl,?_⟩) ?_ ?_;rotate_left
                       · intro w'
                         go_simp;with_reducible rfl
                       rotate_left
                       · simp only [Act.put,YV,YW,YX,i64_w,i32_w]
                         rfl
                       refine pure_ (i := 17) (N := some 64) (v := ?_) (a' := ?_) #[Y,Y,Y,Y,Y,Y,Y,Y,Y,Y,Y,Y,Y,Y,Y,Y,U,Y,U,U,U,U] rfl rfl (Zn HT_.out (by kernel_rfl)) (fun _ _ _ h => h) (Or.inl ⟨by rfl,?_⟩) ?_ ?_;rotate_left
                       · intro w'
                         go_simp;with_reducible rfl
                       rotate_left
                       · simp only [Act.put,YV,YW,YX,i64_w,i32_w]
                         rfl
                       refine take_ (i := 16) (N := some 63) (v := ?_) (a' := ?_) #[Y,Y,Y,Y,Y,Y,Y,Y,Y,Y,Y,Y,Y,Y,Y,Y,Y,Y,U,U,U,U] rfl rfl (Xh HT_.out HW_.out (by kernel_rfl)) (fun _ _ _ h => h) (Or.inl ⟨by rfl,?_⟩) hHeld ?_ ?_;rotate_left
                       · rintro w' ⟨s0,s1,s2,s3,s4,s5⟩
                         go_simp;with_reducible rfl
                       rotate_left
                       · simp only [Act.put,YV,YW,YX,i64_w,i32_w]
                         rfl
                       refine take_ (i := 18) (N := some 65) (v := ?_) (a' := ?_) #[Y,Y,Y,Y,Y,Y,Y,Y,Y,Y,Y,Y,Y,Y,Y,Y,Y,Y,Y,U,U,U] rfl rfl (Xh HT_.out HW_.out (by kernel_rfl)) (fun _ _ _ h => h) (Or.inl ⟨by rfl,?_⟩) hHeld ?_ ?_;rotate_left
                       · rintro w' ⟨s0,s1,s2,s3,s4,s5⟩
                         go_simp;with_reducible rfl
                       rotate_left
                       · simp only [Act.put,YV,YW,YX,i64_w,i32_w]
                         rfl
                       refine pure_ (i := 19) (N := some 66) (v := ?_) (a' := ?_) #[Y,Y,Y,Y,Y,Y,Y,Y,Y,Y,Y,Y,Y,Y,Y,Y,Y,Y,Y,Y,U,U] rfl rfl (Zn HT_.out (by kernel_rfl)) (fun _ _ _ h => h) (Or.inl ⟨by rfl,?_⟩) ?_ ?_;rotate_left
                       · intro w'
                         go_simp;with_reducible rfl
                       rotate_left
                       · simp only [Act.put,YV,YW,YX,i64_w,i32_w]
                         rfl
                       refine pure_ (i := 20) (N := some 67) (v := ?_) (a' := ?_) #[Y,Y,Y,Y,Y,Y,Y,Y,Y,Y,Y,Y,Y,Y,Y,Y,Y,Y,Y,Y,Y,U] rfl rfl (Zn HT_.out (by kernel_rfl)) (fun _ _ _ h => h) (Or.inl ⟨by rfl,?_⟩) ?_ ?_;rotate_left
                       · intro w'
                         go_simp;with_reducible rfl
                       rotate_left
                       · simp only [Act.put,YV,YW,YX,i64_w,i32_w]
                         rfl
                       refine pure_ (i := 21) (N := some 68) (v := ?_) (a' := ?_) #[Y,Y,Y,Y,Y,Y,Y,Y,Y,Y,Y,Y,Y,Y,Y,Y,Y,Y,Y,Y,Y,Y] rfl rfl (Zn HT_.out (by kernel_rfl)) (fun _ _ _ h => h) (Or.inl ⟨by rfl,?_⟩) ?_ ?_;rotate_left
                       · intro w'
                         go_simp;with_reducible rfl
                       rotate_left
                       · simp only [Act.put,YV,YW,YX,i64_w,i32_w]
                         rfl
                       refine done_ (XA HT_.out (by kernel_rfl)) ?_
                       try go_wp2
                       go_roundg kj6
                       case measure => have := HK1.out;have := HJ6.out;omega
                       case rel => exact ⟨(ji33),(by first | rfl | (simp;done) | (simp only [← hji33] <;> (first | rfl | simp)) | (simp [*];done)),H',⟨by have := HK1.out;have := HJ6.out;omega⟩,⟨by repeat (first | (with_reducible first | exact HB.out | apply Zc | apply Za | apply Zb | refine Z9 ?_ GE337.out) | exact HB.out)⟩⟩
                   · rw [if_neg c34] at H
                     exact absurd H (by simp)
                 · rw [if_neg c32] at H
                   have c32b0 : decide ((wrap64 (x11_1 + 1)) < (l0.length : Int)) = false := decide_eq_false c32;clear c32;have H' := Zd.mk H;clear H
                   try go_wp2
                   have n0_ := Zd.mk (Zw BK337.out);have n1_ := Zd.mk (Zb HB.out);clear BK337;clear HB;have BK337 := n0_;have HB := n1_;clear n0_ n1_;refine XE (n := 22) (S := fun w' => w'.cell? ⟨gb337,0,none⟩ = some (.int .i64 ((Ze l0 x11_1).f0)) ∧ w'.cell? ⟨gb337,1,none⟩ = some (.int .i64 ((Ze l0 x11_1).f1)) ∧ w'.cell? ⟨gb337,2,none⟩ = some (.int .i64 ((Ze l0 x11_1).f2))) (ds := []) #[U,U,U,U,U,U,U,U,U,U,U,U,U,U,U,U,U,U,U,U,U,U] (by kernel_rfl) rfl rfl ⟨(Zm BK337.out 0).trans rfl,(Zm BK337.out 1).trans rfl,(Zm BK337.out 2).trans rfl⟩ (fun hHeld => ?_);refine X2 Zk.tab8 Zk.bits8 (fun HT_ HW_ => ?_);generalize wc.drew = w38 at BK337 HB hHeld ⊢;refine pure_ (i := 0) (N := some 47) (v := ?_) (a' := ?_) #[Y,U,U,U,U,U,U,U,U,U,U,U,U,U,U,U,U,U,U,U,U,U] rfl rfl (Zn HT_.out (by kernel_rfl)) (fun _ _ _ h => h) (Or.inl ⟨by rfl,?_⟩) ?_ ?_;rotate_left
                   · intro w'
                     go_simp;with_reducible rfl
                   rotate_left
                   · simp only [Act.put,YV,YW,YX,i64_w,i32_w]
                     rfl
                   refine take_ (i := 1) (N := some 48) (v := ?_) (a' := ?_) #[Y,Y,U,U,U,U,U,U,U,U,U,U,U,U,U,U,U,U,U,U,U,U] rfl rfl (Xh HT_.out HW_.out (by kernel_rfl)) (fun _ _ _ h => h) (Or.inl ⟨by rfl,?_⟩) hHeld ?_ ?_;rotate_left
                   · rintro w' ⟨s0,s1,s2⟩
                     go_simp;with_reducible rfl
                   rotate_left
                   · simp only [Act.put,YV,YW,YX,i64_w,i32_w]
                     rfl
                   refine pure_ (i := 2) (N := some 49) (v := ?_) (a' := ?_) #[Y,Y,Y,U,U,U,U,U,U,U,U,U,U,U,U,U,U,U,U,U,U,U] rfl rfl (Zn HT_.out (by kernel_rfl)) (fun _ _ _ h => h) (Or.inl ⟨by rfl,?_⟩) ?_ ?_;rotate_left
                   · intro w'
                     go_simp;with_reducible rfl
                   rotate_left
                   · simp only [Act.put,YV,YW,YX,i64_w,i32_w]
                     rfl
                   refine pure_ (i := 3) (N := some 50) (v := ?_) (a' := ?_) #[Y,Y,Y,Y,U,U,U,U,U,U,U,U,U,U,U,U,U,U,U,U,U,U] rfl rfl (Zn HT_.out (by kernel_rfl)) (fun _ _ _ h => h) (Or.inl ⟨by rfl,?_⟩) ?_ ?_;rotate_left
                   · intro w'
                     go_simp;with_reducible rfl
                   rotate_left
                   · simp only [Act.put,YV,YW,YX,i64_w,i32_w]
                     rfl
                   refine pure_ (i := 4) (N := some 51) (v := ?_) (a' := ?_) #[Y,Y,Y,Y,Y,U,U,U,U,U,U,U,U,U,U,U,U,U,U,U,U,U] rfl rfl (Zn HT_.out (by kernel_rfl)) (fun _ _ _ h => h) (Or.inl ⟨by rfl,?_⟩) ?_ ?_;rotate_left
                   · intro w'
                     go_simp;with_reducible rfl
                   rotate_left
                   · simp only [Act.put,YV,YW,YX,i64_w,i32_w]
                     rfl
                   refine pure_ (i := 5) (N := some 52) (v := ?_) (a' := ?_) #[Y,Y,Y,Y,Y,Y,U,U,U,U,U,U,U,U,U,U,U,U,U,U,U,U] rfl rfl (Zn HT_.out (by kernel_rfl)) (fun _ _ _ h => h) (Or.inl ⟨by rfl,?_⟩) ?_ ?_;rotate_left
                   · intro w'
                     go_simp;with_reducible rfl
                   rotate_left
                   · simp only [Act.put,YV,YW,YX,i64_w,i32_w]
                     rfl
                   refine pure_ (i := 6) (N := some 53) (v := ?_) (a' := ?_) #[Y,Y,Y,Y,Y,Y,Y,U,U,U,U,U,U,U,U,U,U,U,U,U,U,U] rfl rfl (Zn HT_.out (by kernel_rfl)) (fun _ _ _ h => h) (Or.inl ⟨by rfl,?_⟩) ?_ ?_;rotate_left
                   · intro w'
                     go_simp;with_reducible rfl
                   rotate_left
                   · simp only [Act.put,YV,YW,YX,i64_w,i32_w]
                     rfl
                   refine pure_ (i := 7) (N := some 54) (v := ?_) (a' := ?_) #[Y,Y,Y,Y,Y,Y,Y,Y,U,U,U,U,U,U,U,U,U,U,U,U,U,U] rfl rfl (Zn HT_.out (by kernel_rfl)) (fun _ _ _ h => h) (Or.inl ⟨by rfl,?_⟩) ?_ ?_;rotate_left
                   · intro w'
                     go_simp;with_reducible rfl
                   rotate_left
                   · simp only [Act.put,YV,YW,YX,i64_w,i32_w]
                     rfl
                   refine pure_ (i := 8) (N := some 55) (v := ?_) (a' := ?_) #[Y,Y,Y,Y,Y,Y,Y,Y,Y,U,U,U,U,U,U,U,U,U,U,U,U,U] rfl rfl (Zn HT_.out (by kernel_rfl)) (fun _ _ _ h => h) (Or.inl ⟨by rfl,?_⟩) ?_ ?_;rotate_left
                   · intro w'
                     go_simp;with_reducible rfl
                   rotate_left
                   · simp only [Act.put,YV,YW,YX,i64_w,i32_w]
                     rfl
                   refine pure_ (i := 9) (N := some 56) (v := ?_) (a' := ?_) #[Y,Y,Y,Y,Y,Y,Y,Y,Y,Y,U,U,U,U,U,U,U,U,U,U,U,U] rfl rfl (Zn HT_.out (by kernel_rfl)) (fun _ _ _ h => h) (Or.inl ⟨by rfl,?_⟩) ?_ ?_;rotate_left
                   · intro w'
                     go_simp;with_reducible rfl
                   rotate_left
                   · simp only [Act.put,YV,YW,YX,i64_w,i32_w]
                     rfl
                   refine pure_ (i := 10) (N := some 57) (v := ?_) (a' := ?_) #[Y,Y,Y,Y,Y,Y,Y,Y,Y,Y,Y,U,U,U,U,U,U,U,U,U,U,U] rfl rfl (Zn HT_.out (by kernel_rfl)) (fun _ _ _ h => h) (Or.inl ⟨by rfl,?_⟩) ?_ ?_;rotate_left
                   · intro w'
                     go_simp;with_reducible rfl
                   rotate_left
                   · simp only [Act.put,YV,YW,YX,i64_w,i32_w]
                     rfl
                   refine pure_ (i := 11) (N := some 58) (v := undef) (a' := ?_) #[Y,Y,Y,Y,Y,Y,Y,Y,Y,Y,Y,Y,U,U,U,U,U,U,U,U,U,U] rfl rfl (Zn HT_.out (by kernel_rfl)) (fun _ _ _ h => h) (Or.inr ⟨by rfl,rfl⟩) ?_ ?_;rotate_left
                   · simp only [Act.put,YV,YW,YX,i64_w,i32_w]
                     rfl
                   refine pure_ (i := 12) (N := some 59) (v := undef) (a' := ?_) #[Y,Y,Y,Y,Y,Y,Y,Y,Y,Y,Y,Y,Y,U,U,U,U,U,U,U,U,U] rfl rfl (Zn HT_.out (by kernel_rfl)) (fun _ _ _ h => h) (Or.inr ⟨by rfl,rfl⟩) ?_ ?_;rotate_left
                   · simp only [Act.put,YV,YW,YX,i64_w,i32_w]
                     rfl
                   refine pure_ (i := 13) (N := some 60) (v := undef) (a' := ?_) #[Y,Y,Y,Y,Y,Y,Y,Y,Y,Y,Y,Y,Y,Y,U,U,U,U,U,U,U,U] rfl rfl (Zn HT_.out (by kernel_rfl)) (fun _ _ _ h => h) (Or.inr ⟨by rfl,rfl⟩) ?_ ?_;rotate_left
                   · simp only [Act.put,YV,YW,YX,i64_w,i32_w]
                     rfl
                   refine pure_ (i := 14) (N := some 61) (v := undef) (a' := ?_) #[Y,Y,Y,Y,Y,Y,Y,Y,Y,Y,Y,Y,Y,Y,Y,U,U,U,U,U,U,U] rfl rfl (Zn HT_.out (by kernel_rfl)) (fun _ _ _ h => h) (Or.inr ⟨by rfl,rfl⟩) ?_ ?_;rotate_left
                   · simp only [Act.put,YV,YW,YX,i64_w,i32_w]
                     rfl
                   refine pure_ (i := 15) (N := some 62) (v := undef) (a' := ?_) #[Y,Y,Y,Y,Y,Y,Y,Y,Y,Y,Y,Y,Y,Y,Y,Y,U,U,U,U,U,U] rfl rfl (Zn HT_.out (by kernel_rfl)) (fun _ _ _ h => h) (Or.inr ⟨by rfl,rfl⟩) ?_ ?_;rotate_left
                   · simp only [Act.put,YV,YW,YX,i64_w,i32_w]
                     rfl
                   refine pure_ (i := 16) (N := some 63) (v := undef) (a' := ?_) #[Y,Y,Y,Y,Y,Y,Y,Y,Y,Y,Y,Y,Y,Y,Y,Y,Y,U,U,U,U,U] rfl rfl (Zn HT_.out (by kernel_rfl)) (fun _ _ _ h => h) (Or.inr ⟨by rfl,rfl⟩) ?_ ?_;rotate_left
                   · simp only [Act.put,YV,YW,YX,i64_w,i32_w]
                     rfl
                   refine pure_ (i := 17) (N := some 64) (v := undef) (a' := ?_) #[Y,Y,Y,Y,Y,Y,Y,Y,Y,Y,Y,Y,Y,Y,Y,Y,Y,Y,U,U,U,U] rfl rfl (Zn HT_.out (by kernel_rfl)) (fun _ _ _ h => h) (Or.inr ⟨by rfl,rfl⟩) ?_ ?_;rotate_left
                   · simp only [Act.put,YV,YW,YX,i64_w,i32_w]
                     rfl
                   refine pure_ (i := 18) (N := some 65) (v := undef) (a' := ?_) #[Y,Y,Y,Y,Y,Y,Y,Y,Y,Y,Y,Y,Y,Y,Y,Y,Y,Y,Y,U,U,U] rfl rfl (Zn HT_.out (by kernel_rfl)) (fun _ _ _ h => h) (Or.inr ⟨by rfl,rfl⟩) ?_ ?_;rotate_left
                   · simp only [Act.put,YV,YW,YX,i64_w,i32_w]
                     rfl
                   refine pure_ (i := 19) (N := some 66) (v := undef) (a' := ?_) #[Y,Y,Y,Y,Y,Y,Y,Y,Y,Y,Y,Y,Y,Y,Y,Y,Y,Y,Y,Y,U,U] rfl rfl (Zn HT_.out (by kernel_rfl)) (fun _ _ _ h => h) (Or.inr ⟨by rfl,rfl⟩) ?_ ?_;rotate_left
                   · simp only [Act.put,YV,YW,YX,i64_w,i32_w]
                     rfl
                   refine pure_ (i := 20) (N := some 67) (v := undef) (a' := ?_) #[Y,Y,Y,Y,Y,Y,Y,Y,Y,Y,Y,Y,Y,Y,Y,Y,Y,Y,Y,Y,Y,U] rfl rfl (Zn HT_.out (by kernel_rfl)) (fun _ _ _ h => h) (Or.inr ⟨by rfl,rfl⟩) ?_ ?_;rotate_left
                   · simp only [Act.put,YV,YW,YX,i64_w,i32_w]
                     rfl
                   refine pure_ (i := 21) (N := some 68) (v := ?_) (a' := ?_) #[Y,Y,Y,Y,Y,Y,Y,Y,Y,Y,Y,Y,Y,Y,Y,Y,Y,Y,Y,Y,Y,Y] rfl rfl (Zn HT_.out (by kernel_rfl)) (fun _ _ _ h => h) (Or.inl ⟨by rfl,?_⟩) ?_ ?_;rotate_left
                   · intro w'
                     go_simp;with_reducible rfl
                   rotate_left
                   · simp only [Act.put,YV,YW,YX,i64_w,i32_w]
                     rfl
                   refine done_ (XA HT_.out (by kernel_rfl)) ?_
                   try go_wp2
                   go_roundg kj6
                   case measure => have := HK1.out;have := HJ6.out;omega
                   case rel => exact ⟨(wrap64 (x11_1 + 1)),(by first | rfl | (simp;done) | (simp [*];done)),H',⟨by have := HK1.out;have := HJ6.out;omega⟩,⟨by repeat (first | (with_reducible first | exact HB.out | apply Zc | apply Za | apply Zb | refine Z9 ?_ GE337.out) | exact HB.out)⟩⟩
               · rw [if_neg c31] at H
                 have c31b0 : (((Ze l0 x11_1).f2) == 2) = false := beq_eq_false_iff_ne.mpr c31;have c31b1 : (((Ze l0 x11_1).f2) != 2) = true := bne_iff_ne.mpr c31;have H' := Zd.mk H;clear H
                 try go_wp2
                 have n0_ := Zd.mk (Zw BK337.out);have n1_ := Zd.mk (Zb HB.out);clear BK337;clear HB;have BK337 := n0_;have HB := n1_;clear n0_ n1_;refine XE (n := 22) (S := fun w' => w'.cell? ⟨gb337,0,none⟩ = some (.int .i64 ((Ze l0 x11_1).f0)) ∧ w'.cell? ⟨gb337,1,none⟩ = some (.int .i64 ((Ze l0 x11_1).f1)) ∧ w'.cell? ⟨gb337,2,none⟩ = some (.int .i64 ((Ze l0 x11_1).f2))) (ds := []) #[U,U,U,U,U,U,U,U,U,U,U,U,U,U,U,U,U,U,U,U,U,U] (by kernel_rfl) rfl rfl ⟨(Zm BK337.out 0).trans rfl,(Zm BK337.out 1).trans rfl,(Zm BK337.out 2).trans rfl⟩ (fun hHeld => ?_);refine X2 Zk.tab8 Zk.bits8 (fun HT_ HW_ => ?_);generalize wc.drew = w39 at BK337 HB hHeld ⊢;refine pure_ (i := 0) (N := some 47) (v := ?_) (a' := ?_) #[Y,U,U,U,U,U,U,U,U,U,U,U,U,U,U,U,U,U,U,U,U,U] rfl rfl (Zn HT_.out (by kernel_rfl)) (fun _ _ _ h => h) (Or.inl ⟨by rfl,?_⟩) ?_ ?_;rotate_left
                 · intro w'
                   go_simp;with_reducible rfl
                 rotate_left
                 · simp only [Act.put,YV,YW,YX,i64_w,i32_w]
                   rfl
                 refine take_ (i := 1) (N := some 48) (v := ?_) (a' := ?_) #[Y,Y,U,U,U,U,U,U,U,U,U,U,U,U,U,U,U,U,U,U,U,U] rfl rfl (Xh HT_.out HW_.out (by kernel_rfl)) (fun _ _ _ h => h) (Or.inl ⟨by rfl,?_⟩) hHeld ?_ ?_;rotate_left
                 · rintro w' ⟨s0,s1,s2⟩
                   go_simp;with_reducible rfl
                 rotate_left
                 · simp only [Act.put,YV,YW,YX,i64_w,i32_w]
                   rfl
                 refine pure_ (i := 2) (N := some 49) (v := ?_) (a' := ?_) #[Y,Y,Y,U,U,U,U,U,U,U,U,U,U,U,U,U,U,U,U,U,U,U] rfl rfl (Zn HT_.out (by kernel_rfl)) (fun _ _ _ h => h) (Or.inl ⟨by rfl,?_⟩) ?_ ?_;rotate_left
                 · intro w'
                   go_simp;with_reducible rfl
                 rotate_left
                 · simp only [Act.put,YV,YW,YX,i64_w,i32_w]
                   rfl
                 refine pure_ (i := 3) (N := some 50) (v := ?_) (a' := ?_) #[Y,Y,Y,Y,U,U,U,U,U,U,U,U,U,U,U,U,U,U,U,U,U,U] rfl rfl (Zn HT_.out (by kernel_rfl)) (fun _ _ _ h => h) (Or.inl ⟨by rfl,?_⟩) ?_ ?_;rotate_left
                 · intro w'
                   go_simp;with_reducible rfl
                 rotate_left
                 · simp only [Act.put,YV,YW,YX,i64_w,i32_w]
                   rfl
                 refine pure_ (i := 4) (N := some 51) (v := undef) (a' := ?_) #[Y,Y,Y,Y,Y,U,U,U,U,U,U,U,U,U,U,U,U,U,U,U,U,U] rfl rfl (Zn HT_.out (by kernel_rfl)) (fun _ _ _ h => h) (Or.inr ⟨by rfl,rfl⟩) ?_ ?_;rotate_left
                 · simp only [Act.put,YV,YW,YX,i64_w,i32_w]
                   rfl
                 refine pure_ (i := 5) (N := some 52) (v := undef) (a' := ?_) #[Y,Y,Y,Y,Y,Y,U,U,U,U,U,U,U,U,U,U,U,U,U,U,U,U] rfl rfl (Zn HT_.out (by kernel_rfl)) (fun _ _ _ h => h) (Or.inr ⟨by rfl,rfl⟩) ?_ ?_;rotate_left
                 · simp only [Act.put,YV,YW,YX,i64_w,i32_w]
                   rfl
                 refine pure_ (i := 6) (N := some 53) (v := undef) (a' := ?_) #[Y,Y,Y,Y,Y,Y,Y,U,U,U,U,U,U,U,U,U,U,U,U,U,U,U] rfl rfl (Zn HT_.out (by kernel_rfl)) (fun _ _ _ h => h) (Or.inr ⟨by rfl,rfl⟩) ?_ ?_;rotate_left
                 · simp only [Act.put,YV,YW,YX,i64_w,i32_w]
                   rfl
                 refine pure_ (i := 7) (N := some 54) (v := undef) (a' := ?_) #[Y,Y,Y,Y,Y,Y,Y,Y,U,U,U,U,U,U,U,U,U,U,U,U,U,U] rfl rfl (Zn HT_.out (by kernel_rfl)) (fun _ _ _ h => h) (Or.inr ⟨by rfl,rfl⟩) ?_ ?_;rotate_left
                 · simp only [Act.put,YV,YW,YX,i64_w,i32_w]
                   rfl
                 refine pure_ (i := 8) (N := some 55) (v := undef) (a' := ?_) #[Y,Y,Y,Y,Y,Y,Y,Y,Y,U,U,U,U,U,U,U,U,U,U,U,U,U] rfl rfl (Zn HT_.out (by kernel_rfl)) (fun _ _ _ h => h) (Or.inr ⟨by rfl,rfl⟩) ?_ ?_;rotate_left
                 · simp only [Act.put,YV,YW,YX,i64_w,i32_w]
                   rfl
                 refine pure_ (i := 9) (N := some 56) (v := ?_) (a' := ?_) #[Y,Y,Y,Y,Y,Y,Y,Y,Y,Y,U,U,U,U,U,U,U,U,U,U,U,U] rfl rfl (Zn HT_.out (by kernel_rfl)) (fun _ _ _ h => h) (Or.inl ⟨by rfl,?_⟩) ?_ ?_;rotate_left
                 · intro w'
                   go_simp;with_reducible rfl
                 rotate_left
                 · simp only [Act.put,YV,YW,YX,i64_w,i32_w]
                   rfl
                 refine pure_ (i := 10) (N := some 57) (v := ?_) (a' := ?_) #[Y,Y,Y,Y,Y,Y,Y,Y,Y,Y,Y,U,U,U,U,U,U,U,U,U,U,U] rfl rfl (Zn HT_.out (by kernel_rfl)) (fun _ _ _ h => h) (Or.inl ⟨by rfl,?_⟩) ?_ ?_;rotate_left
                 · intro w'
                   go_simp;with_reducible rfl
                 rotate_left
                 · simp only [Act.put,YV,YW,YX,i64_w,i32_w]
                   rfl
                 refine pure_ (i := 11) (N := some 58) (v := undef) (a' := ?_) #[Y,Y,Y,Y,Y,Y,Y,Y,Y,Y,Y,Y,U,U,U,U,U,U,U,U,U,U] rfl rfl (Zn HT_.out (by kernel_rfl)) (fun _ _ _ h => h) (Or.inr ⟨by rfl,rfl⟩) ?_ ?_;rotate_left
                 · simp only [Act.put,YV,YW,YX,i64_w,i32_w]
                   rfl
                 refine pure_ (i := 12) (N := some 59) (v := undef) (a' := ?_) #[Y,Y,Y,Y,Y,Y,Y,Y,Y,Y,Y,Y,Y,U,U,U,U,U,U,U,U,U] rfl rfl (Zn HT_.out (by kernel_rfl)) (fun _ _ _ h => h) (Or.inr ⟨by rfl,rfl⟩) ?_ ?_;rotate_left
                 · simp only [Act.put,YV,YW,YX,i64_w,i32_w]
                   rfl
                 refine pure_ (i := 13) (N := some 60) (v := undef) (a' := ?_) #[Y,Y,Y,Y,Y,Y,Y,Y,Y,Y,Y,Y,Y,Y,U,U,U,U,U,U,U,U] rfl rfl (Zn HT_.out (by kernel_rfl)) (fun _ _ _ h => h) (Or.inr ⟨by rfl,rfl⟩) ?_ ?_;rotate_left
                 · simp only [Act.put,YV,YW,YX,i64_w,i32_w]
                   rfl
                 refine pure_ (i := 14) (N := some 61) (v := undef) (a' := ?_) #[Y,Y,Y,Y,Y,Y,Y,Y,Y,Y,Y,Y,Y,Y,Y,U,U,U,U,U,U,U] rfl rfl (Zn HT_.out (by kernel_rfl)) (fun _ _ _ h => h) (Or.inr ⟨by rfl,rfl⟩) ?_ ?_;rotate_left
                 · simp only [Act.put,YV,YW,YX,i64_w,i32_w]
                   rfl
                 refine pure_ (i := 15) (N := some 62) (v := undef) (a' := ?_) #[Y,Y,Y,Y,Y,Y,Y,Y,Y,Y,Y,Y,Y,Y,Y,Y,U,U,U,U,U,U] rfl rfl (Zn HT_.out (by kernel_rfl)) (fun _ _ _ h => h) (Or.inr ⟨by rfl,rfl⟩) ?_ ?_;rotate_left
                 · simp only [Act.put,YV,YW,YX,i64_w,i32_w]
                   rfl
                 refine pure_ (i := 16) (N := some 63) (v := undef) (a' := ?_) #[Y,Y,Y,Y,Y,Y,Y,Y,Y,Y,Y,Y,Y,Y,Y,Y,Y,U,U,U,U,U] rfl rfl (Zn HT_.out (by kernel_rfl)) (fun _ _ _ h => h) (Or.inr ⟨by rfl,rfl⟩) ?_ ?_;rotate_left
                 · simp only [Act.put,YV,YW,YX,i64_w,i32_w]
                   rfl
                 refine pure_ (i := 17) (N := some 64) (v := undef) (a' := ?_) #[Y,Y,Y,Y,Y,Y,Y,Y,Y,Y,Y,Y,Y,Y,Y,Y,Y,Y,U,U,U,U] rfl rfl (Zn HT_.out (by kernel_rfl)) (fun _ _ _ h => h) (Or.inr ⟨by rfl,rfl⟩) ?_ ?_;rotate_left
                 · simp only [Act.put,YV,YW,YX,i64_w,i32_w]
                   rfl
                 refine pure_ (i := 18) (N := some 65) (v := undef) (a' := ?_) #[Y,Y,Y,Y,Y,Y,Y,Y,Y,Y,Y,Y,Y,Y,Y,Y,Y,Y,Y,U,U,U] rfl rfl (Zn HT_.out (by kernel_rfl)) (fun _ _ _ h => h) (Or.inr ⟨by rfl,rfl⟩) ?_ ?_;rotate_left
                 · simp only [Act.put,YV,YW,YX,i64_w,i32_w]
                   rfl
                 refine pure_ (i := 19) (N := some 66) (v := undef) (a' := ?_) #[Y,Y,Y,Y,Y,Y,Y,Y,Y,Y,Y,Y,Y,Y,Y,Y,Y,Y,Y,Y,U,U] rfl rfl (Zn HT_.out (by kernel_rfl)) (fun _ _ _ h => h) (Or.inr ⟨by rfl,rfl⟩) ?_ ?_;rotate_left
                 · simp only [Act.put,YV,YW,YX,i64_w,i32_w]
                   rfl
                 refine pure_ (i := 20) (N := some 67) (v := undef) (a' := ?_) #[Y,Y,Y,Y,Y,Y,Y,Y,Y,Y,Y,Y,Y,Y,Y,Y,Y,Y,Y,Y,Y,U] rfl rfl (Zn HT_.out (by kernel_rfl)) (fun _ _ _ h => h) (Or.inr ⟨by rfl,rfl⟩) ?_ ?_;rotate_left
                 · simp only [Act.put,YV,YW,YX,i64_w,i32_w]
                   rfl
                 refine pure_ (i := 21) (N := some 68) (v := ?_) (a' := ?_) #[Y,Y,Y,Y,Y,Y,Y,Y,Y,Y,Y,Y,Y,Y,Y,Y,Y,Y,Y,Y,Y,Y] rfl rfl (Zn HT_.out (by kernel_rfl)) (fun _ _ _ h => h) (Or.inl ⟨by rfl,?_⟩) ?_ ?_;rotate_left
                 · intro w'
                   go_simp;with_reducible rfl
                 rotate_left
                 · simp only [Act.put,YV,YW,YX,i64_w,i32_w]
                   rfl
                 refine done_ (XA HT_.out (by kernel_rfl)) ?_
                 try go_wp2
                 go_roundg kj6
                 case measure => have := HK1.out;have := HJ6.out;omega
                 case rel => exact ⟨(wrap64 (x11_1 + 1)),(by first | rfl | (simp;done) | (simp [*];done)),H',⟨by have := HK1.out;have := HJ6.out;omega⟩,⟨by repeat (first | (with_reducible first | exact HB.out | apply Zc | apply Za | apply Zb | refine Z9 ?_ GE337.out) | exact HB.out)⟩⟩
         · rw [if_neg c6] at H
           exact absurd H (by simp)
       · rw [if_neg c5] at H
         exact absurd H (by simp)
     · rw [if_neg c4] at H
       have c4b0 : decide (x11_1 < (l0.length : Int)) = false := decide_eq_false c4;clear c4;obtain rfl := Option.some.inj H
       go_wp2
       go_ret;exact ⟨by first | rfl | (simp [Zt,Zv] <;> rfl) | (simp [*,Zt,Zv] <;> rfl),by repeat (first | (with_reducible first | exact HB.out | apply Zc | apply Za | apply Zb) | exact HB.out)⟩
 · replace c3 := Bool.eq_false_iff.mpr c3
   subst c3
   have H1 : (some false) = some r := by rw [if_neg (show ¬ (false = true) by decide)] at H;exact H
   clear H;have H := H1;clear H1;obtain rfl := Option.some.inj H
   go_enter Try.func36,Try.ntmps36
   go_wp2_with (first | ((with_reducible refine Z2 (f := 43) rfl ?_);refine ZP (some 7) rfl rfl Try.func43 (by kernel_rfl) rfl #[.int .i64 (l0.length : Int),.int .i64 1,.int .i64 100] rfl (by (try simp only [List.map_toArray,List.map_cons,List.map_nil]);first | done | rfl | (simp only [List.length_drop,List.length_take];rfl)) ?_;(with_reducible refine (Z1.calls (l0.length : Int) 1 100 false _ A2.out).mono ?_);rintro e w' ⟨rfl,⟨nd,rfl⟩⟩;refine ⟨_,rfl,?_⟩))
   go_ret;exact ⟨by first | rfl | (simp [Zt,Zv] <;> rfl) | (simp [*,Zt,Zv] <;> rfl),by repeat (first | (with_reducible first | exact HB.out | apply Zc | apply Za | apply Zb) | exact HB.out)⟩
end Go.Proofs.Ytomlfbmfdoallaa.PA
