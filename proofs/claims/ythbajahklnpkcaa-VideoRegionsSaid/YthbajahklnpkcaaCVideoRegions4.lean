/- VideoRegions, part 4: what the row is built on. -/
import Derived.Test.YthbajahklnpkcaaCVideoRegions3
namespace Go.Proofs.Ythbajahklnpkcaa.PA
open Go.RowKit Go.Proofs.YthbajahklnpkcaaW.PrintWords Go.Proofs.YthbajahklnpkcaaW.PrintLast Go.Proofs.YthbajahklnpkcaaW.PrintMore
attribute [local go_sem] ZK ZL ZR ZU ZD ZC ZM ZN
set_option linter.unusedVariables false
set_option linter.unusedSimpArgs false
mutual
def Zc.l0 : Nat → List (S43) → List (S43) → Int → List Int → List Int → Int → Option ((List (S43)))
 | 0,_,_,_,_,_,_ => none
 | k + 1,x0,x1,x2,x7,x8,x9 => if x9 < (wrap64 ((x0.length : Int) + (x1.length : Int))) then (if x9 < (x0.length : Int) then (if 0 ≤ x9 then ((some (([(Ze x0 x9).f0,wrap64 (((Ze x0 x9).f0) + ((Ze x0 x9).f2))] : List Int) : List Int)).bind fun y301 => (if x7.length + y301.length < 17592186044416 then ((some (([(Ze x0 x9).f1,wrap64 (((Ze x0 x9).f1) + ((Ze x0 x9).f3))] : List Int) : List Int)).bind fun y307 => (if x8.length + y307.length < 17592186044416 then (Zc.l0 k x0 x1 x2 (x7 ++ y301) (x8 ++ y307) (wrap64 (x9 + 1))) else (none))) else (none))) else (none)) else (if 0 ≤ (wrap64 (x9 - (x0.length : Int))) then (if (wrap64 (x9 - (x0.length : Int))) < (x1.length : Int) then ((some (([(Ze x1 (wrap64 (x9 - (x0.length : Int)))).f0,wrap64 (((Ze x1 (wrap64 (x9 - (x0.length : Int)))).f0) + ((Ze x1 (wrap64 (x9 - (x0.length : Int)))).f2))] : List Int) : List Int)).bind fun y314 => (if x7.length + y314.length < 17592186044416 then ((some (([(Ze x1 (wrap64 (x9 - (x0.length : Int)))).f1,wrap64 (((Ze x1 (wrap64 (x9 - (x0.length : Int)))).f1) + ((Ze x1 (wrap64 (x9 - (x0.length : Int)))).f3))] : List Int) : List Int)).bind fun y320 => (if x8.length + y320.length < 17592186044416 then (Zc.l0 k x0 x1 x2 (x7 ++ y314) (x8 ++ y320) (wrap64 (x9 + 1))) else (none))) else (none))) else (none)) else (none))) else ((Xb.f x7).bind fun t326 => ((Xb.f x8).bind fun t329 => (Zc.l1 k x0 x1 x2 t326 t329 ([] : List (List (S43))) 0)))
def Zc.l1 : Nat → List (S43) → List (S43) → Int → List Int → List Int → List (List (S43)) → Int → Option ((List (S43)))
 | 0,_,_,_,_,_,_,_ => none
 | k + 1,x0,x1,x2,x7,x8,x11,x12 => if (wrap64 (x12 + 1)) < (x8.length : Int) then (Zc.l2 k x0 x1 x2 x7 x8 x11 x12 ([] : List (S43)) 0) else (Zc.l4 k x11 ([] : List (S43)) 0)
def Zc.l2 : Nat → List (S43) → List (S43) → Int → List Int → List Int → List (List (S43)) → Int → List (S43) → Int → Option ((List (S43)))
 | 0,_,_,_,_,_,_,_,_,_ => none
 | k + 1,x0,x1,x2,x7,x8,x11,x12,x13,x14 => if (wrap64 (x14 + 1)) < (x7.length : Int) then (if 0 ≤ x14 then (if x14 < (x7.length : Int) then (if 0 ≤ x12 then (if x12 < (x8.length : Int) then ((Z0.f k x0 (rd x7 x14) (rd x8 x12)).bind fun t334 => ((Z0.f k x1 (rd x7 x14) (rd x8 x12)).bind fun t337 => (if x2 = 1 then (if t334 = true then (Zc.j3 k x0 x1 x2 x7 x8 x11 x12 x13 x14 true) else (if t337 = true then (Zc.j3 k x0 x1 x2 x7 x8 x11 x12 x13 x14 true) else (if x2 = 2 then (if x2 = 3 then (Zc.j3 k x0 x1 x2 x7 x8 x11 x12 x13 x14 false) else (Zc.j3 k x0 x1 x2 x7 x8 x11 x12 x13 x14 false)) else (if x2 = 3 then (Zc.j3 k x0 x1 x2 x7 x8 x11 x12 x13 x14 false) else (Zc.j3 k x0 x1 x2 x7 x8 x11 x12 x13 x14 false))))) else (if x2 = 2 then (if t334 = true then (if t337 = true then (Zc.j3 k x0 x1 x2 x7 x8 x11 x12 x13 x14 true) else (if x2 = 3 then (Zc.j3 k x0 x1 x2 x7 x8 x11 x12 x13 x14 (!t337)) else (Zc.j3 k x0 x1 x2 x7 x8 x11 x12 x13 x14 false))) else (if x2 = 3 then (Zc.j3 k x0 x1 x2 x7 x8 x11 x12 x13 x14 false) else (Zc.j3 k x0 x1 x2 x7 x8 x11 x12 x13 x14 false))) else (if x2 = 3 then (if t334 = true then (Zc.j3 k x0 x1 x2 x7 x8 x11 x12 x13 x14 (!t337)) else (Zc.j3 k x0 x1 x2 x7 x8 x11 x12 x13 x14 false)) else (Zc.j3 k x0 x1 x2 x7 x8 x11 x12 x13 x14 false)))))) else (none)) else (none)) else (none)) else (none)) else ((Zv.f k x13).bind fun t347 => (if (x11.length : Int) > 0 then (if 0 ≤ (wrap64 ((x11.length : Int) - 1)) then (if (wrap64 ((x11.length : Int) - 1)) < (x11.length : Int) then ((Zy.f k (rd_L2 x11 (wrap64 ((x11.length : Int) - 1))) t347).bind fun t351 => (Zc.j4 k x0 x1 x2 x7 x8 x11 x12 t347 (x11.length : Int) t351)) else (none)) else (none)) else (Zc.j4 k x0 x1 x2 x7 x8 x11 x12 t347 (x11.length : Int) false)))
def Zc.j3 : Nat → List (S43) → List (S43) → Int → List Int → List Int → List (List (S43)) → Int → List (S43) → Int → Bool → Option ((List (S43)))
 | 0,_,_,_,_,_,_,_,_,_,_ => none
 | k + 1,x0,x1,x2,x7,x8,x11,x12,x13,x14,x132 => if x132 = true then (if 0 ≤ x14 then (if x14 < (x7.length : Int) then (if 0 ≤ x12 then (if x12 < (x8.length : Int) then (if 0 ≤ (wrap64 (x14 + 1)) then (if (wrap64 (x14 + 1)) < (x7.length : Int) then (if 0 ≤ (wrap64 (x12 + 1)) then (if (wrap64 (x12 + 1)) < (x8.length : Int) then (if x13.length < 4398046511104 then (Zc.l2 k x0 x1 x2 x7 x8 x11 x12 (x13 ++ [(⟨rd x7 x14,rd x8 x12,wrap64 ((rd x7 (wrap64 (x14 + 1))) - (rd x7 x14)),wrap64 ((rd x8 (wrap64 (x12 + 1))) - (rd x8 x12))⟩ : S43)]) (wrap64 (x14 + 1))) else (none)) else (none)) else (none)) else (none)) else (none)) else (none)) else (none)) else (none)) else (none)) else (Zc.l2 k x0 x1 x2 x7 x8 x11 x12 x13 (wrap64 (x14 + 1)))
def Zc.j4 : Nat → List (S43) → List (S43) → Int → List Int → List Int → List (List (S43)) → Int → List (S43) → Int → Bool → Option ((List (S43)))
 | 0,_,_,_,_,_,_,_,_,_,_ => none
 | k + 1,x0,x1,x2,x7,x8,x11,x12,x13,x17,x179 => if x179 = true then (Zc.l3 k x0 x1 x2 x7 x8 x11 x12 x13 x17 0) else (if (x13.length : Int) > 0 then (if x11.length < 5864062014805 then (Zc.l1 k x0 x1 x2 x7 x8 (x11 ++ [x13]) (wrap64 (x12 + 1))) else (none)) else (Zc.l1 k x0 x1 x2 x7 x8 x11 (wrap64 (x12 + 1))))
def Zc.l3 : Nat → List (S43) → List (S43) → Int → List Int → List Int → List (List (S43)) → Int → List (S43) → Int → Int → Option ((List (S43)))
 | 0,_,_,_,_,_,_,_,_,_,_ => none
 | k + 1,x0,x1,x2,x7,x8,x11,x12,x13,x17,x18 => if x18 < (x13.length : Int) then (if 0 ≤ (wrap64 (x17 - 1)) then (if (wrap64 (x17 - 1)) < (x11.length : Int) then (if 0 ≤ x18 then (if x18 < ((rd_L2 x11 (wrap64 (x17 - 1))).length : Int) then (Zc.l3 k x0 x1 x2 x7 x8 (x11.set ((wrap64 (x17 - 1)) : Int).toNat ((rd_L2 x11 (wrap64 (x17 - 1))).set (x18 : Int).toNat (⟨(Ze (rd_L2 x11 (wrap64 (x17 - 1))) x18).f0,(Ze (rd_L2 x11 (wrap64 (x17 - 1))) x18).f1,(Ze (rd_L2 x11 (wrap64 (x17 - 1))) x18).f2,wrap64 (((Ze (rd_L2 x11 (wrap64 (x17 - 1))) x18).f3) + ((Ze x13 x18).f3))⟩ : S43))) x12 x13 x17 (wrap64 (x18 + 1))) else (none)) else (none)) else (none)) else (none)) else (Zc.l1 k x0 x1 x2 x7 x8 x11 (wrap64 (x12 + 1)))
def Zc.l4 : Nat → List (List (S43)) → List (S43) → Int → Option ((List (S43)))
 | 0,_,_,_ => none
 | k + 1,x11,x19,x20 => if x20 < (x11.length : Int) then (if 0 ≤ x20 then (if x19.length + (rd_L2 x11 x20).length < 4398046511104 then (Zc.l4 k x11 (x19 ++ (rd_L2 x11 x20)) (wrap64 (x20 + 1))) else (none)) else (none)) else (some x19)
end
def Zc.f (k : Nat) (l0 : List (S43)) (l1 : List (S43)) (a2 : Int) : Option ((List (S43))) := Zc.l0 k l0 l1 a2 ([] : List Int) ([] : List Int) 0
def Zc.T9 : Bool × List (List Nat × List Nat) := (true,[([],[]),([],[]),([1],[1]),([],[]),([3],[3]),([],[]),([5],[5]),([4,6],[4,6]),([2,7],[2,7]),([0,8],[0,8]),([],[]),([],[]),([11],[11]),([],[]),([13],[13]),([],[]),([15],[15]),([14,16],[14,16]),([12,17],[12,17]),([10,18,9],[10,18]),([9,19,0,1,2,3,4,5,6,7,8,9],[0,9]),([19,20,0,1,2,3,4,5,6,7,8,9,10,11,12,13,14,15,16,17,18,19,20],[10,19])])
def Zc.B9 : List Nat := [0,0,2,0,8,0,32,120,254,511,0,0,2048,0,8192,0,32768,122880,260096,524287,1048575,2097151]
theorem Zc.tab9 : rtab .any (opsOf Try.f61 9) = Zc.T9 := by kernel_rfl
theorem Zc.bits9 : waitsOk Zc.T9.2 Zc.B9 = true := by kernel_rfl
def Zc.T19 : Bool × List (List Nat × List Nat) := (true,[([],[]),([],[]),([],[]),([1,2],[1,2]),([3],[3]),([],[]),([],[]),([5,6],[5,6]),([7],[7]),([0,4,8],[0,4,8]),([],[]),([],[]),([],[]),([11,12],[11,12]),([13],[13]),([],[]),([],[]),([15,16],[15,16]),([17],[17]),([10,14,18,9],[10,14,18]),([9,19,0,1,2,3,4,5,6,7,8,9],[9]),([19,20,0,1,2,3,4,5,6,7,8,9,10,11,12,13,14,15,16,17,18,19,20],[19])])
def Zc.B19 : List Nat := [0,0,0,6,14,0,0,96,224,511,0,0,0,6144,14336,0,0,98304,229376,524287,1048575,2097151]
theorem Zc.tab19 : rtab .any (opsOf Try.f61 19) = Zc.T19 := by kernel_rfl
theorem Zc.bits19 : waitsOk Zc.T19.2 Zc.B19 = true := by kernel_rfl
def Zc.T21 : Bool × List (List Nat × List Nat) := (true,[([],[]),([],[]),([],[]),([1,2],[1,2]),([3],[3]),([],[]),([],[]),([5,6],[5,6]),([7],[7]),([],[]),([],[]),([10],[10]),([9,11],[9,11]),([12],[12]),([],[]),([],[]),([14,15],[14,15]),([16],[16]),([13,17],[13,17]),([],[]),([],[]),([20],[20]),([19,21],[19,21]),([22],[22]),([],[]),([],[]),([24,25],[24,25]),([26],[26]),([23,27],[23,27]),([4,8,18,28],[4,8,18,28]),([29],[29]),([0,30],[0,30]),([31,31,0,1,2,3,4,5,6,7,8,9,10,11,12,13,14,15,16,17,18,19,20,21,22,23,24,25,26,27,28,29,30,31],[0,31])])
def Zc.B21 : List Nat := [0,0,0,6,14,0,0,96,224,0,0,1024,3584,7680,0,0,49152,114688,261632,0,0,1048576,3670016,7864320,0,0,50331648,117440512,267911168,536870910,1073741822,2147483647,4294967295]
theorem Zc.tab21 : rtab .any (opsOf Try.f61 21) = Zc.T21 := by kernel_rfl
theorem Zc.bits21 : waitsOk Zc.T21.2 Zc.B21 = true := by kernel_rfl
def Zc.T28 : Bool × List (List Nat × List Nat) := (true,[([],[]),([],[]),([1],[1]),([0,2],[0,2]),([3],[3]),([],[]),([4,5],[4,5]),([6],[6]),([7],[7]),([],[]),([],[]),([9,10],[9,10]),([11],[11]),([12],[12]),([8,13],[8,13]),([4,5,0,1,2,3,4,5,6,7,8,9,10,11,12,13,14],[4,5]),([15,0,1,2,3,4,5,6,7,8,9,10,11,12,13,14],[15]),([16,14,0,1,2,3,4,5,6,7,8,9,10,11,12,13,14],[14,16])])
def Zc.B28 : List Nat := [0,0,2,7,15,0,63,127,255,0,0,1536,3584,7680,16383,32767,65535,131071]
theorem Zc.tab28 : rtab .any (opsOf Try.f61 28) = Zc.T28 := by kernel_rfl
theorem Zc.bits28 : waitsOk Zc.T28.2 Zc.B28 = true := by kernel_rfl
set_option maxHeartbeats 8000000 in
set_option maxRecDepth 100000 in
theorem Zc.calls (k : Nat) (A0 : Option Addr) (c0 : Nat) (l0 : List (S43)) (A1 : Option Addr) (c1 : Nat) (l1 : List (S43)) (a2 : Int) (r : List (S43)) (w : World) (hr0 : Kd.C k43 w A0 l0.length l0) (hc0 : l0.length ≤ c0) (hr1 : Kd.C k43 w A1 l1.length l1) (hc1 : l1.length ≤ c1) (h : Zc.f k l0 l1 a2 = some r) :
 Calls Try.prog 61 #[.slice A0 l0.length c0,.slice A1 l1.length c1,.int .i64 a2] w fun e w' => ∃ v0_ : Value,e = .returned (v0_) ∧ Kd.R k43 43 w' w.heap.size (fun _ => True) v0_ r ∧ Below w.heap.size w w' := by
 have hu43 := Try.underlying43;have HR0 := Zb.mk hr0;have HC0 := Zb.mk hc0;clear hr0 hc0;have HR1 := Zb.mk hr1;have HC1 := Zb.mk hc1;clear hr1 hc1;have HB := Zb.mk (Below.refl w.heap.size w);have H : (Zc.l0 k l0 l1 a2 ([] : List Int) ([] : List Int) 0) = some r := h;clear h;have H' := Zb.mk H;clear H
 go_enter Try.func61,Try.ntmps61
 go_wp2
 go_loopg [7,8,9] k (fun kq v7 v8 v9 w' => ∃ (x7_1 : List Int) (x8_1 : List Int) (x9_1 : Int),v9 = .int .i64 x9_1 ∧ Zb (Zc.l0 kq l0 l1 a2 x7_1 x8_1 x9_1 = some r) ∧ Zb (kq ≤ k) ∧ Zb (Kd.R (Kd.int .i64) 3 w' w.heap.size (fun k_ => some k_ ≠ (v8 : Value).ownBlock) v7 x7_1) ∧ Zb (Kd.R (Kd.int .i64) 3 w' w.heap.size (fun k_ => some k_ ≠ (v7 : Value).ownBlock) v8 x8_1) ∧ Zb (Below w.heap.size w w'))
 case atStart => exact ⟨(([] : List Int)),(([] : List Int)),(0),(by first | rfl | (simp;done) | (simp [*];done)),H',⟨Nat.le_refl _⟩,⟨by first | exact Kd.R_nil _ _ _ _ _ | exact Kd.N_nil _ _ _ _ _ | exact Kd.V_nil _ _ _ _ _ | exact Kd.Q_nil _ _ _ _ _ | exact Kd.S_nil _ _ _ _ _⟩,⟨by first | exact Kd.R_nil _ _ _ _ _ | exact Kd.N_nil _ _ _ _ _ | exact Kd.V_nil _ _ _ _ _ | exact Kd.Q_nil _ _ _ _ _ | exact Kd.S_nil _ _ _ _ _⟩,⟨by repeat (first | (with_reducible first | exact HB.out | apply Zf | apply Za | apply Zd) | exact HB.out)⟩⟩
 case round =>
  clear H'
  (try clear c1); (try clear p2)
  obtain ⟨x7_1,x8_1,x9_1,rfl,HA,HK1,HO_7,HO_8,HB⟩ := hrel
  cases gk with
  | zero => exact absurd HA.out (by simp [Zc.l0])
  | succ k1 =>
   have H := HA.out;clear HA;simp only [Zc.l0] at H
   by_cases c4 : x9_1 < (wrap64 ((l0.length : Int) + (l1.length : Int)))
   · rw [if_pos c4] at H
     have c4b0 : decide (x9_1 < (wrap64 ((l0.length : Int) + (l1.length : Int)))) = true := decide_eq_true c4;clear c4
     by_cases c5 : x9_1 < (l0.length : Int)
     · rw [if_pos c5] at H
       have c5b0 : decide (x9_1 < (l0.length : Int)) = true := decide_eq_true c5;clear c5
       by_cases c6 : 0 ≤ x9_1
       · rw [if_pos c6] at H
         have c6b0 : decide (0 ≤ x9_1) = true := decide_eq_true c6;clear c6
         obtain ⟨y301,hy301⟩ : ∃ y_ : List Int,y_ = (([(Ze l0 x9_1).f0,wrap64 (((Ze l0 x9_1).f0) + ((Ze l0 x9_1).f2))] : List Int)) := ⟨_,rfl⟩
         replace H : (if x7_1.length + y301.length < 17592186044416 then ((some (([(Ze l0 x9_1).f1,wrap64 (((Ze l0 x9_1).f1) + ((Ze l0 x9_1).f3))] : List Int) : List Int)).bind fun y307 => (if x8_1.length + y307.length < 17592186044416 then (Zc.l0 k1 l0 l1 a2 (x7_1 ++ y301) (x8_1 ++ y307) (wrap64 (x9_1 + 1))) else (none))) else (none)) = some r := by first | (rw [hy301];with_reducible exact H) | (have H2_ := (Option.bind_some _ _).symm.trans H;rw [hy301];with_reducible exact H2_) | (have H2_ := (Option.bind_some _ _).symm.trans H;with_reducible exact H2_) | with_reducible exact H | (rw [hy301];exact H) | exact H
         have Ny301 := Zb.mk hy301;clear hy301
         by_cases c7 : x7_1.length + y301.length < 17592186044416
         · rw [if_pos c7] at H
           have LMc7 := Zb.mk c7;clear c7
           obtain ⟨y304,hy304⟩ : ∃ y_ : List Int,y_ = (x7_1 ++ y301) := ⟨_,rfl⟩
           replace H : ((some (([(Ze l0 x9_1).f1,wrap64 (((Ze l0 x9_1).f1) + ((Ze l0 x9_1).f3))] : List Int) : List Int)).bind fun y307 => (if x8_1.length + y307.length < 17592186044416 then (Zc.l0 k1 l0 l1 a2 y304 (x8_1 ++ y307) (wrap64 (x9_1 + 1))) else (none))) = some r := by first | (rw [hy304];with_reducible exact H) | (have H2_ := (Option.bind_some _ _).symm.trans H;rw [hy304];with_reducible exact H2_) | (have H2_ := (Option.bind_some _ _).symm.trans H;with_reducible exact H2_) | with_reducible exact H | (rw [hy304];exact H) | exact H
           have Ny304 := Zb.mk hy304;clear hy304
           obtain ⟨y307,hy307⟩ : ∃ y_ : List Int,y_ = (([(Ze l0 x9_1).f1,wrap64 (((Ze l0 x9_1).f1) + ((Ze l0 x9_1).f3))] : List Int)) := ⟨_,rfl⟩
           replace H : (if x8_1.length + y307.length < 17592186044416 then (Zc.l0 k1 l0 l1 a2 y304 (x8_1 ++ y307) (wrap64 (x9_1 + 1))) else (none)) = some r := by first | (rw [hy307];with_reducible exact H) | (have H2_ := (Option.bind_some _ _).symm.trans H;rw [hy307];with_reducible exact H2_) | (have H2_ := (Option.bind_some _ _).symm.trans H;with_reducible exact H2_) | with_reducible exact H | (rw [hy307];exact H) | exact H
           have Ny307 := Zb.mk hy307;clear hy307
           by_cases c8 : x8_1.length + y307.length < 17592186044416
           · rw [if_pos c8] at H
             have LMc8 := Zb.mk c8;clear c8
             obtain ⟨y310,hy310⟩ : ∃ y_ : List Int,y_ = (x8_1 ++ y307) := ⟨_,rfl⟩
             replace H : (Zc.l0 k1 l0 l1 a2 y304 y310 (wrap64 (x9_1 + 1))) = some r := by first | (rw [hy310];with_reducible exact H) | (have H2_ := (Option.bind_some _ _).symm.trans H;rw [hy310];with_reducible exact H2_) | (have H2_ := (Option.bind_some _ _).symm.trans H;with_reducible exact H2_) | with_reducible exact H | (rw [hy310];exact H) | exact H
             have Ny310 := Zb.mk hy310;clear hy310;have H' := Zb.mk H;clear H
             try go_wp2_with (first | ((with_reducible refine ZJ (N := 10) rfl ?_);refine ZI ?hg (N := 10) ?hd (cs := #[.int .i64 0,.int .i64 0,.int .i64 0,.int .i64 0]) (t := 43) ?hr ?_;(case hd => rfl);(case hg => rfl);(case hr => first | (go_simp;done) | (go_simp;rfl));intro gb299 hg w9 hbox hb;have n0_ := Zb.mk (Kd.Xa (by (with_reducible repeat (first | apply Kd.Zj | apply Kd.Zi | apply Kd.Zm));exact HO_7.out) hb);have n1_ := Zb.mk (Kd.Xa (by (with_reducible repeat (first | apply Kd.Zj | apply Kd.Zi | apply Kd.Zm));exact HO_8.out) hb);have n2_ := Zb.mk (Zr (by repeat (first | (with_reducible first | exact HB.out | apply Zf | apply Za | apply Zd) | exact HB.out)) hb);have n3_ := Zb.mk (hbox);have n4_ := Zb.mk ((by rw [hg];exact (Zp (by repeat (first | (with_reducible first | exact HB.out | apply Zf | apply Za | apply Zd) | exact HB.out))) : w.heap.size ≤ gb299));have n5_ := Zb.mk ((by rw [hg];exact (Zp (by repeat (first | (with_reducible first | exact HB.out | apply Zf | apply Za | apply Zd) | exact HB.out))) : w.heap.size ≤ gb299));clear HO_7;clear HO_8;clear HB;have HO_7 := n0_;have HO_8 := n1_;have HB := n2_;have BK299 := n3_;have GW299 := n4_;have GE299 := n5_;clear n0_ n1_ n2_ n3_ n4_ n5_;clear hb hbox hg;have hcz10_0 : w9.cell? ⟨gb299,0,none⟩ = some (.int .i64 0) := (Zg BK299.out 0).trans rfl;have hcz10_1 : w9.cell? ⟨gb299,1,none⟩ = some (.int .i64 0) := (Zg BK299.out 1).trans rfl;have hcz10_2 : w9.cell? ⟨gb299,2,none⟩ = some (.int .i64 0) := (Zg BK299.out 2).trans rfl;have hcz10_3 : w9.cell? ⟨gb299,3,none⟩ = some (.int .i64 0) := (Zg BK299.out 3).trans rfl;have hfz10_0 := Zh BK299.out 0;have hfz10_1 := Zh BK299.out 1;have hfz10_2 := Zh BK299.out 2;have hfz10_3 := Zh BK299.out 3;have p300 : 0 ≤ (x9_1 : Int) := of_decide_eq_true (by first | (with_reducible assumption) | assumption);have q300 : x9_1 < (l0.length : Int) := of_decide_eq_true (by first | (with_reducible assumption) | assumption);obtain ⟨ad300,e300,hx300_0,hx300_1,hx300_2,hx300_3⟩ := Z4 HR0.out x9_1 p300 q300;cases e300;have hn300_0 : ad300.block ≠ gb299 := Nat.ne_of_lt (Nat.lt_of_lt_of_le (by have := World.block_lt_of_cell? _ _ hx300_0;first | rwa [Z2] at this | exact this) GW299.out);have hn300_1 : ad300.block ≠ gb299 := Nat.ne_of_lt (Nat.lt_of_lt_of_le (by have := World.block_lt_of_cell? _ _ hx300_0;first | rwa [Z2] at this | exact this) GW299.out);have hn300_2 : ad300.block ≠ gb299 := Nat.ne_of_lt (Nat.lt_of_lt_of_le (by have := World.block_lt_of_cell? _ _ hx300_0;first | rwa [Z2] at this | exact this) GW299.out);have hn300_3 : ad300.block ≠ gb299 := Nat.ne_of_lt (Nat.lt_of_lt_of_le (by have := World.block_lt_of_cell? _ _ hx300_0;first | rwa [Z2] at this | exact this) GW299.out);replace hx300_0 := (HB.out.cell (World.block_lt_of_cell? w _ hx300_0)).trans hx300_0;replace hx300_1 := (HB.out.cell (World.block_lt_of_cell? w _ hx300_1)).trans hx300_1;replace hx300_2 := (HB.out.cell (World.block_lt_of_cell? w _ hx300_2)).trans hx300_2;replace hx300_3 := (HB.out.cell (World.block_lt_of_cell? w _ hx300_3)).trans hx300_3;replace hx300_0 := (ZZ (p := ⟨gb299,0,none⟩) (by first | (rw [Z2];exact hn300_0) | (show (Addr.add _ _).block ≠ _;rw [Z2];exact hn300_0) | exact hn300_0) (.int .i64 0)).trans hx300_0;replace hx300_1 := (ZZ (p := ⟨gb299,0,none⟩) (by first | (rw [Z2];exact hn300_0) | (show (Addr.add _ _).block ≠ _;rw [Z2];exact hn300_0) | exact hn300_0) (.int .i64 0)).trans hx300_1;replace hx300_2 := (ZZ (p := ⟨gb299,0,none⟩) (by first | (rw [Z2];exact hn300_0) | (show (Addr.add _ _).block ≠ _;rw [Z2];exact hn300_0) | exact hn300_0) (.int .i64 0)).trans hx300_2;replace hx300_3 := (ZZ (p := ⟨gb299,0,none⟩) (by first | (rw [Z2];exact hn300_0) | (show (Addr.add _ _).block ≠ _;rw [Z2];exact hn300_0) | exact hn300_0) (.int .i64 0)).trans hx300_3;replace hx300_0 := (ZZ (p := ⟨gb299,1,none⟩) (by first | (rw [Z2];exact hn300_1) | (show (Addr.add _ _).block ≠ _;rw [Z2];exact hn300_1) | exact hn300_1) (.int .i64 0)).trans hx300_0;replace hx300_1 := (ZZ (p := ⟨gb299,1,none⟩) (by first | (rw [Z2];exact hn300_1) | (show (Addr.add _ _).block ≠ _;rw [Z2];exact hn300_1) | exact hn300_1) (.int .i64 0)).trans hx300_1;replace hx300_2 := (ZZ (p := ⟨gb299,1,none⟩) (by first | (rw [Z2];exact hn300_1) | (show (Addr.add _ _).block ≠ _;rw [Z2];exact hn300_1) | exact hn300_1) (.int .i64 0)).trans hx300_2;replace hx300_3 := (ZZ (p := ⟨gb299,1,none⟩) (by first | (rw [Z2];exact hn300_1) | (show (Addr.add _ _).block ≠ _;rw [Z2];exact hn300_1) | exact hn300_1) (.int .i64 0)).trans hx300_3;replace hx300_0 := (ZZ (p := ⟨gb299,2,none⟩) (by first | (rw [Z2];exact hn300_2) | (show (Addr.add _ _).block ≠ _;rw [Z2];exact hn300_2) | exact hn300_2) (.int .i64 0)).trans hx300_0;replace hx300_1 := (ZZ (p := ⟨gb299,2,none⟩) (by first | (rw [Z2];exact hn300_2) | (show (Addr.add _ _).block ≠ _;rw [Z2];exact hn300_2) | exact hn300_2) (.int .i64 0)).trans hx300_1;replace hx300_2 := (ZZ (p := ⟨gb299,2,none⟩) (by first | (rw [Z2];exact hn300_2) | (show (Addr.add _ _).block ≠ _;rw [Z2];exact hn300_2) | exact hn300_2) (.int .i64 0)).trans hx300_2;replace hx300_3 := (ZZ (p := ⟨gb299,2,none⟩) (by first | (rw [Z2];exact hn300_2) | (show (Addr.add _ _).block ≠ _;rw [Z2];exact hn300_2) | exact hn300_2) (.int .i64 0)).trans hx300_3;replace hx300_0 := (ZZ (p := ⟨gb299,3,none⟩) (by first | (rw [Z2];exact hn300_3) | (show (Addr.add _ _).block ≠ _;rw [Z2];exact hn300_3) | exact hn300_3) (.int .i64 0)).trans hx300_0;replace hx300_1 := (ZZ (p := ⟨gb299,3,none⟩) (by first | (rw [Z2];exact hn300_3) | (show (Addr.add _ _).block ≠ _;rw [Z2];exact hn300_3) | exact hn300_3) (.int .i64 0)).trans hx300_1;replace hx300_2 := (ZZ (p := ⟨gb299,3,none⟩) (by first | (rw [Z2];exact hn300_3) | (show (Addr.add _ _).block ≠ _;rw [Z2];exact hn300_3) | exact hn300_3) (.int .i64 0)).trans hx300_2;replace hx300_3 := (ZZ (p := ⟨gb299,3,none⟩) (by first | (rw [Z2];exact hn300_3) | (show (Addr.add _ _).block ≠ _;rw [Z2];exact hn300_3) | exact hn300_3) (.int .i64 0)).trans hx300_3;clear hn300_0;clear hn300_1;clear hn300_2;clear hn300_3;replace p300 := eq_true p300;replace q300 := eq_true q300;obtain ⟨Ao11,co11,eo11⟩ := Kd.ZS HO_7.out;subst eo11;obtain ⟨Ao12,co12,eo12⟩ := Kd.ZS HO_8.out;subst eo12))
             have n0_ : Zb (Kd.R (Kd.int .i64) 3 ((((((((w9.setCell ⟨gb299,0,none⟩ (.int .i64 0)).setCell ⟨gb299,1,none⟩ (.int .i64 0)).setCell ⟨gb299,2,none⟩ (.int .i64 0)).setCell ⟨gb299,3,none⟩ (.int .i64 0)).setCell ⟨gb299,0,none⟩ (.int .i64 ((Ze l0 x9_1).f0))).setCell ⟨gb299,1,none⟩ (.int .i64 ((Ze l0 x9_1).f1))).setCell ⟨gb299,2,none⟩ (.int .i64 ((Ze l0 x9_1).f2))).setCell ⟨gb299,3,none⟩ (.int .i64 ((Ze l0 x9_1).f3))) w.heap.size (fun k_ => some k_ ≠ (.slice Ao12 x8_1.length co12 : Value).ownBlock) (.slice Ao11 x7_1.length co11) x7_1) := ⟨by (with_reducible repeat (first | apply Kd.Zj | apply Kd.Zi | apply Kd.Zm));exact Kd.ZE (Kd.R_far (p := ⟨gb299,3,none⟩) (Kd.R_far (p := ⟨gb299,2,none⟩) (Kd.R_far (p := ⟨gb299,1,none⟩) (Kd.R_far (p := ⟨gb299,0,none⟩) (Kd.R_far (p := ⟨gb299,3,none⟩) (Kd.R_far (p := ⟨gb299,2,none⟩) (Kd.R_far (p := ⟨gb299,1,none⟩) (Kd.R_far (p := ⟨gb299,0,none⟩) (Kd.QL HO_7.out BK299.out (by decide)) (fun _ hk => hk.2) (.int .i64 0)) (fun _ hk => hk.2) (.int .i64 0)) (fun _ hk => hk.2) (.int .i64 0)) (fun _ hk => hk.2) (.int .i64 0)) (fun _ hk => hk.2) (.int .i64 ((Ze l0 x9_1).f0))) (fun _ hk => hk.2) (.int .i64 ((Ze l0 x9_1).f1))) (fun _ hk => hk.2) (.int .i64 ((Ze l0 x9_1).f2))) (fun _ hk => hk.2) (.int .i64 ((Ze l0 x9_1).f3))) (fun _ hk => hk.1)⟩
             have n1_ : Zb (Kd.R (Kd.int .i64) 3 ((((((((w9.setCell ⟨gb299,0,none⟩ (.int .i64 0)).setCell ⟨gb299,1,none⟩ (.int .i64 0)).setCell ⟨gb299,2,none⟩ (.int .i64 0)).setCell ⟨gb299,3,none⟩ (.int .i64 0)).setCell ⟨gb299,0,none⟩ (.int .i64 ((Ze l0 x9_1).f0))).setCell ⟨gb299,1,none⟩ (.int .i64 ((Ze l0 x9_1).f1))).setCell ⟨gb299,2,none⟩ (.int .i64 ((Ze l0 x9_1).f2))).setCell ⟨gb299,3,none⟩ (.int .i64 ((Ze l0 x9_1).f3))) w.heap.size (fun k_ => some k_ ≠ (.slice Ao11 x7_1.length co11 : Value).ownBlock) (.slice Ao12 x8_1.length co12) x8_1) := ⟨by (with_reducible repeat (first | apply Kd.Zj | apply Kd.Zi | apply Kd.Zm));exact Kd.ZE (Kd.R_far (p := ⟨gb299,3,none⟩) (Kd.R_far (p := ⟨gb299,2,none⟩) (Kd.R_far (p := ⟨gb299,1,none⟩) (Kd.R_far (p := ⟨gb299,0,none⟩) (Kd.R_far (p := ⟨gb299,3,none⟩) (Kd.R_far (p := ⟨gb299,2,none⟩) (Kd.R_far (p := ⟨gb299,1,none⟩) (Kd.R_far (p := ⟨gb299,0,none⟩) (Kd.QL HO_8.out BK299.out (by decide)) (fun _ hk => hk.2) (.int .i64 0)) (fun _ hk => hk.2) (.int .i64 0)) (fun _ hk => hk.2) (.int .i64 0)) (fun _ hk => hk.2) (.int .i64 0)) (fun _ hk => hk.2) (.int .i64 ((Ze l0 x9_1).f0))) (fun _ hk => hk.2) (.int .i64 ((Ze l0 x9_1).f1))) (fun _ hk => hk.2) (.int .i64 ((Ze l0 x9_1).f2))) (fun _ hk => hk.2) (.int .i64 ((Ze l0 x9_1).f3))) (fun _ hk => hk.1)⟩
             have n2_ : Zb (((((((((w9.setCell ⟨gb299,0,none⟩ (.int .i64 0)).setCell ⟨gb299,1,none⟩ (.int .i64 0)).setCell ⟨gb299,2,none⟩ (.int .i64 0)).setCell ⟨gb299,3,none⟩ (.int .i64 0)).setCell ⟨gb299,0,none⟩ (.int .i64 ((Ze l0 x9_1).f0))).setCell ⟨gb299,1,none⟩ (.int .i64 ((Ze l0 x9_1).f1))).setCell ⟨gb299,2,none⟩ (.int .i64 ((Ze l0 x9_1).f2))).setCell ⟨gb299,3,none⟩ (.int .i64 ((Ze l0 x9_1).f3))).heap[gb299]? = some (.cells #[.int .i64 ((Ze l0 x9_1).f0),.int .i64 ((Ze l0 x9_1).f1),.int .i64 ((Ze l0 x9_1).f2),.int .i64 ((Ze l0 x9_1).f3)] 43 (0,0))) := ⟨by (with_reducible repeat (first | refine Zl ?_ _ | refine Zn ?_ | refine Zk ?_ _));refine Z8 (cs := #[.int .i64 ((Ze l0 x9_1).f0),.int .i64 ((Ze l0 x9_1).f1),.int .i64 ((Ze l0 x9_1).f2),.int .i64 0]) ?_ 3 _ rfl;(with_reducible repeat (first | refine Zl ?_ _ | refine Zn ?_ | refine Zk ?_ _));refine Z8 (cs := #[.int .i64 ((Ze l0 x9_1).f0),.int .i64 ((Ze l0 x9_1).f1),.int .i64 0,.int .i64 0]) ?_ 2 _ rfl;(with_reducible repeat (first | refine Zl ?_ _ | refine Zn ?_ | refine Zk ?_ _));refine Z8 (cs := #[.int .i64 ((Ze l0 x9_1).f0),.int .i64 0,.int .i64 0,.int .i64 0]) ?_ 1 _ rfl;(with_reducible repeat (first | refine Zl ?_ _ | refine Zn ?_ | refine Zk ?_ _));refine Z8 (cs := #[.int .i64 0,.int .i64 0,.int .i64 0,.int .i64 0]) ?_ 0 _ rfl;(with_reducible repeat (first | refine Zl ?_ _ | refine Zn ?_ | refine Zk ?_ _));refine Z8 (cs := #[.int .i64 0,.int .i64 0,.int .i64 0,.int .i64 0]) ?_ 3 _ rfl;(with_reducible repeat (first | refine Zl ?_ _ | refine Zn ?_ | refine Zk ?_ _));refine Z8 (cs := #[.int .i64 0,.int .i64 0,.int .i64 0,.int .i64 0]) ?_ 2 _ rfl;(with_reducible repeat (first | refine Zl ?_ _ | refine Zn ?_ | refine Zk ?_ _));refine Z8 (cs := #[.int .i64 0,.int .i64 0,.int .i64 0,.int .i64 0]) ?_ 1 _ rfl;(with_reducible repeat (first | refine Zl ?_ _ | refine Zn ?_ | refine Zk ?_ _));refine Z8 (cs := #[.int .i64 0,.int .i64 0,.int .i64 0,.int .i64 0]) ?_ 0 _ rfl;(with_reducible repeat (first | refine Zl ?_ _ | refine Zn ?_ | refine Zk ?_ _));exact BK299.out⟩
             have n3_ : Zb (Below w.heap.size w ((((((((w9.setCell ⟨gb299,0,none⟩ (.int .i64 0)).setCell ⟨gb299,1,none⟩ (.int .i64 0)).setCell ⟨gb299,2,none⟩ (.int .i64 0)).setCell ⟨gb299,3,none⟩ (.int .i64 0)).setCell ⟨gb299,0,none⟩ (.int .i64 ((Ze l0 x9_1).f0))).setCell ⟨gb299,1,none⟩ (.int .i64 ((Ze l0 x9_1).f1))).setCell ⟨gb299,2,none⟩ (.int .i64 ((Ze l0 x9_1).f2))).setCell ⟨gb299,3,none⟩ (.int .i64 ((Ze l0 x9_1).f3)))) := ⟨by repeat (first | (with_reducible first | exact HB.out | apply Zf | apply Za | apply Zd | refine Zo ?_ GE299.out) | exact HB.out)⟩
             (try clear HO_7)
             (try clear HO_8)
             (try clear BK299)
             (try clear HB)
             generalize ((((((((w9.setCell ⟨gb299,0,none⟩ (.int .i64 0)).setCell ⟨gb299,1,none⟩ (.int .i64 0)).setCell ⟨gb299,2,none⟩ (.int .i64 0)).setCell ⟨gb299,3,none⟩ (.int .i64 0)).setCell ⟨gb299,0,none⟩ (.int .i64 ((Ze l0 x9_1).f0))).setCell ⟨gb299,1,none⟩ (.int .i64 ((Ze l0 x9_1).f1))).setCell ⟨gb299,2,none⟩ (.int .i64 ((Ze l0 x9_1).f2))).setCell ⟨gb299,3,none⟩ (.int .i64 ((Ze l0 x9_1).f3))) = w13 at n0_ n1_ n2_ n3_ ⊢;have HO_7 := n0_;have HO_8 := n1_;have BK299 := n2_;have HB := n3_;clear n0_ n1_ n2_ n3_;have n0_ := Zb.mk (Kd.Zm HO_7.out);have n1_ := Zb.mk (Kd.Zm HO_8.out);have n2_ := Zb.mk (Zn BK299.out);have n3_ := Zb.mk (Zd HB.out);clear HO_7;clear HO_8;clear BK299;clear HB;have HO_7 := n0_;have HO_8 := n1_;have BK299 := n2_;have HB := n3_;clear n0_ n1_ n2_ n3_;refine Qn (n := 22) (S := fun w' => w'.cell? ⟨gb299,0,none⟩ = some (.int .i64 ((Ze l0 x9_1).f0)) ∧ w'.cell? ⟨gb299,1,none⟩ = some (.int .i64 ((Ze l0 x9_1).f1)) ∧ w'.cell? ⟨gb299,2,none⟩ = some (.int .i64 ((Ze l0 x9_1).f2)) ∧ w'.cell? ⟨gb299,3,none⟩ = some (.int .i64 ((Ze l0 x9_1).f3))) (ds := []) #[Z,Z,Z,Z,Z,Z,Z,Z,Z,Z,Z,Z,Z,Z,Z,Z,Z,Z,Z,Z,Z,Z] (by kernel_rfl) rfl rfl ⟨(Zg BK299.out 0).trans rfl,(Zg BK299.out 1).trans rfl,(Zg BK299.out 2).trans rfl,(Zg BK299.out 3).trans rfl⟩ (fun hHeld => ?_);refine XC Zc.tab9 Zc.bits9 (fun HT_ HW_ => ?_);generalize w13.drew = w14 at HO_7 HO_8 BK299 HB hHeld ⊢;refine pure_ (i := 0) (N := some 46) (v := ?_) (a' := ?_) #[U,Z,Z,Z,Z,Z,Z,Z,Z,Z,Z,Z,Z,Z,Z,Z,Z,Z,Z,Z,Z,Z] rfl rfl (Zs HT_.out (by kernel_rfl)) (fun _ _ _ h => h) (Or.inl ⟨by rfl,?_⟩) ?_ ?_;rotate_left
             · intro w'
               go_simp;with_reducible rfl
             rotate_left
             · simp only [Act.put,V9,VA,VB,i64_w,i32_w]
               rfl
             refine pure_ (i := 1) (N := some 47) (v := ?_) (a' := ?_) #[U,U,Z,Z,Z,Z,Z,Z,Z,Z,Z,Z,Z,Z,Z,Z,Z,Z,Z,Z,Z,Z] rfl rfl (Zs HT_.out (by kernel_rfl)) (fun _ _ _ h => h) (Or.inl ⟨by rfl,?_⟩) ?_ ?_;rotate_left
             · intro w'
               go_simp;with_reducible rfl
             rotate_left
             · simp only [Act.put,V9,VA,VB,i64_w,i32_w]
               rfl
             refine pure_ (i := 3) (N := some 49) (v := ?_) (a' := ?_) #[U,U,Z,U,Z,Z,Z,Z,Z,Z,Z,Z,Z,Z,Z,Z,Z,Z,Z,Z,Z,Z] rfl rfl (Zs HT_.out (by kernel_rfl)) (fun _ _ _ h => h) (Or.inl ⟨by rfl,?_⟩) ?_ ?_;rotate_left
             · intro w'
               go_simp;with_reducible rfl
             rotate_left
             · simp only [Act.put,V9,VA,VB,i64_w,i32_w]
               rfl
             refine pure_ (i := 5) (N := some 51) (v := ?_) (a' := ?_) #[U,U,Z,U,Z,U,Z,Z,Z,Z,Z,Z,Z,Z,Z,Z,Z,Z,Z,Z,Z,Z] rfl rfl (Zs HT_.out (by kernel_rfl)) (fun _ _ _ h => h) (Or.inl ⟨by rfl,?_⟩) ?_ ?_;rotate_left
             · intro w'
               go_simp;with_reducible rfl
             rotate_left
             · simp only [Act.put,V9,VA,VB,i64_w,i32_w]
               rfl
             refine pure_ (i := 10) (N := some 56) (v := ?_) (a' := ?_) #[U,U,Z,U,Z,U,Z,Z,Z,Z,U,Z,Z,Z,Z,Z,Z,Z,Z,Z,Z,Z] rfl rfl (Zs HT_.out (by kernel_rfl)) (fun _ _ _ h => h) (Or.inl ⟨by rfl,?_⟩) ?_ ?_;rotate_left
             · intro w'
               go_simp;with_reducible rfl
             rotate_left
             · simp only [Act.put,V9,VA,VB,i64_w,i32_w]
               rfl
             refine pure_ (i := 11) (N := some 57) (v := ?_) (a' := ?_) #[U,U,Z,U,Z,U,Z,Z,Z,Z,U,U,Z,Z,Z,Z,Z,Z,Z,Z,Z,Z] rfl rfl (Zs HT_.out (by kernel_rfl)) (fun _ _ _ h => h) (Or.inl ⟨by rfl,?_⟩) ?_ ?_;rotate_left
             · intro w'
               go_simp;with_reducible rfl
             rotate_left
             · simp only [Act.put,V9,VA,VB,i64_w,i32_w]
               rfl
             refine pure_ (i := 13) (N := some 59) (v := ?_) (a' := ?_) #[U,U,Z,U,Z,U,Z,Z,Z,Z,U,U,Z,U,Z,Z,Z,Z,Z,Z,Z,Z] rfl rfl (Zs HT_.out (by kernel_rfl)) (fun _ _ _ h => h) (Or.inl ⟨by rfl,?_⟩) ?_ ?_;rotate_left
             · intro w'
               go_simp;with_reducible rfl
             rotate_left
             · simp only [Act.put,V9,VA,VB,i64_w,i32_w]
               rfl
             refine pure_ (i := 15) (N := some 61) (v := ?_) (a' := ?_) #[U,U,Z,U,Z,U,Z,Z,Z,Z,U,U,Z,U,Z,U,Z,Z,Z,Z,Z,Z] rfl rfl (Zs HT_.out (by kernel_rfl)) (fun _ _ _ h => h) (Or.inl ⟨by rfl,?_⟩) ?_ ?_;rotate_left
             · intro w'
               go_simp;with_reducible rfl
             rotate_left
             · simp only [Act.put,V9,VA,VB,i64_w,i32_w]
               rfl
             refine take_ (i := 2) (N := some 48) (v := ?_) (a' := ?_) #[U,U,U,U,Z,U,Z,Z,Z,Z,U,U,Z,U,Z,U,Z,Z,Z,Z,Z,Z] rfl rfl (ZQ HT_.out HW_.out (by kernel_rfl)) (fun _ _ _ h => h) (Or.inl ⟨by rfl,?_⟩) hHeld ?_ ?_;rotate_left
             · rintro w' ⟨s0,s1,s2,s3⟩
               go_simp;with_reducible rfl
             rotate_left
             · simp only [Act.put,V9,VA,VB,i64_w,i32_w]
               rfl
             refine take_ (i := 4) (N := some 50) (v := ?_) (a' := ?_) #[U,U,U,U,U,U,Z,Z,Z,Z,U,U,Z,U,Z,U,Z,Z,Z,Z,Z,Z] rfl rfl (ZQ HT_.out HW_.out (by kernel_rfl)) (fun _ _ _ h => h) (Or.inl ⟨by rfl,?_⟩) hHeld ?_ ?_;rotate_left
             · rintro w' ⟨s0,s1,s2,s3⟩
               go_simp;with_reducible rfl
             rotate_left
             · simp only [Act.put,V9,VA,VB,i64_w,i32_w]
               rfl
             refine take_ (i := 6) (N := some 52) (v := ?_) (a' := ?_) #[U,U,U,U,U,U,U,Z,Z,Z,U,U,Z,U,Z,U,Z,Z,Z,Z,Z,Z] rfl rfl (ZQ HT_.out HW_.out (by kernel_rfl)) (fun _ _ _ h => h) (Or.inl ⟨by rfl,?_⟩) hHeld ?_ ?_;rotate_left
             · rintro w' ⟨s0,s1,s2,s3⟩
               go_simp;with_reducible rfl
             rotate_left
             · simp only [Act.put,V9,VA,VB,i64_w,i32_w]
               rfl
             refine pure_ (i := 7) (N := some 53) (v := ?_) (a' := ?_) #[U,U,U,U,U,U,U,U,Z,Z,U,U,Z,U,Z,U,Z,Z,Z,Z,Z,Z] rfl rfl (Zs HT_.out (by kernel_rfl)) (fun _ _ _ h => h) (Or.inl ⟨by rfl,?_⟩) ?_ ?_;rotate_left
             · intro w'
               go_simp;with_reducible rfl
             rotate_left
             · simp only [Act.put,V9,VA,VB,i64_w,i32_w]
               rfl
             refine take_ (i := 12) (N := some 58) (v := ?_) (a' := ?_) #[U,U,U,U,U,U,U,U,Z,Z,U,U,U,U,Z,U,Z,Z,Z,Z,Z,Z] rfl rfl (ZQ HT_.out HW_.out (by kernel_rfl)) (fun _ _ _ h => h) (Or.inl ⟨by rfl,?_⟩) hHeld ?_ ?_;rotate_left
             · rintro w' ⟨s0,s1,s2,s3⟩
               go_simp;with_reducible rfl
             rotate_left
             · simp only [Act.put,V9,VA,VB,i64_w,i32_w]
               rfl
             refine take_ (i := 14) (N := some 60) (v := ?_) (a' := ?_) #[U,U,U,U,U,U,U,U,Z,Z,U,U,U,U,U,U,Z,Z,Z,Z,Z,Z] rfl rfl (ZQ HT_.out HW_.out (by kernel_rfl)) (fun _ _ _ h => h) (Or.inl ⟨by rfl,?_⟩) hHeld ?_ ?_;rotate_left
             · rintro w' ⟨s0,s1,s2,s3⟩
               go_simp;with_reducible rfl
             rotate_left
             · simp only [Act.put,V9,VA,VB,i64_w,i32_w]
               rfl
             refine take_ (i := 16) (N := some 62) (v := ?_) (a' := ?_) #[U,U,U,U,U,U,U,U,Z,Z,U,U,U,U,U,U,U,Z,Z,Z,Z,Z] rfl rfl (ZQ HT_.out HW_.out (by kernel_rfl)) (fun _ _ _ h => h) (Or.inl ⟨by rfl,?_⟩) hHeld ?_ ?_;rotate_left
             · rintro w' ⟨s0,s1,s2,s3⟩
               go_simp;with_reducible rfl
             rotate_left
             · simp only [Act.put,V9,VA,VB,i64_w,i32_w]
               rfl
             refine pure_ (i := 17) (N := some 63) (v := ?_) (a' := ?_) #[U,U,U,U,U,U,U,U,Z,Z,U,U,U,U,U,U,U,U,Z,Z,Z,Z] rfl rfl (Zs HT_.out (by kernel_rfl)) (fun _ _ _ h => h) (Or.inl ⟨by rfl,?_⟩) ?_ ?_;rotate_left
             · intro w'
               go_simp;with_reducible rfl
             rotate_left
             · simp only [Act.put,V9,VA,VB,i64_w,i32_w]
               rfl
             refine join_ (σ := Value × Value × Value) 3 #[U,U,U,U,U,U,U,U,U,U,U,U,U,U,U,U,U,U,U,Z,Z,Z] (fun s_ => [(54,s_.1),(55,s_.2.1),(64,s_.2.2)]) (fun s_ w' => (w'.cell? ⟨gb299,0,none⟩ = some (.int .i64 ((Ze l0 x9_1).f0)) ∧ w'.cell? ⟨gb299,1,none⟩ = some (.int .i64 ((Ze l0 x9_1).f1)) ∧ w'.cell? ⟨gb299,2,none⟩ = some (.int .i64 ((Ze l0 x9_1).f2)) ∧ w'.cell? ⟨gb299,3,none⟩ = some (.int .i64 ((Ze l0 x9_1).f3))) ∧ (Kd.R (Kd.int .i64) 3 w' w.heap.size (fun k_ => some k_ ≠ (s_.2.1 : Value).ownBlock ∧ some k_ ≠ (s_.2.2 : Value).ownBlock ∧ some k_ ≠ (.slice Ao12 x8_1.length co12 : Value).ownBlock) s_.1 y301) ∧ (Kd.R (Kd.int .i64) 3 w' w.heap.size (fun k_ => some k_ ≠ (s_.1 : Value).ownBlock ∧ some k_ ≠ (s_.2.2 : Value).ownBlock ∧ some k_ ≠ (.slice Ao12 x8_1.length co12 : Value).ownBlock) s_.2.1 y304) ∧ (Kd.R (Kd.int .i64) 3 w' w.heap.size (fun k_ => some k_ ≠ (s_.1 : Value).ownBlock ∧ some k_ ≠ (s_.2.1 : Value).ownBlock ∧ some k_ ≠ (.slice Ao12 x8_1.length co12 : Value).ownBlock) s_.2.2 y307) ∧ (Kd.R (Kd.int .i64) 3 w' w.heap.size (fun k_ => some k_ ≠ (s_.1 : Value).ownBlock ∧ some k_ ≠ (s_.2.1 : Value).ownBlock ∧ some k_ ≠ (s_.2.2 : Value).ownBlock) (.slice Ao12 x8_1.length co12) x8_1) ∧ (w'.heap[gb299]? = some (.cells #[.int .i64 ((Ze l0 x9_1).f0),.int .i64 ((Ze l0 x9_1).f1),.int .i64 ((Ze l0 x9_1).f2),.int .i64 ((Ze l0 x9_1).f3)] 43 (0,0))) ∧ (Below w.heap.size w w')) ?_ ?_;rotate_left
             · intro hCont
               refine two_ (i := 8) (j := 18) (Ni := some 54) (Nj := some 64) #[U,U,U,U,U,U,U,U,U,Z,U,U,U,U,U,U,U,U,Z,Z,Z,Z] #[U,U,U,U,U,U,U,U,Z,Z,U,U,U,U,U,U,U,U,U,Z,Z,Z] rfl rfl rfl rfl (JC HT_.out (by kernel_rfl)) (by decide) (by decide) (fun K hK => ?_) (fun K hK => ?_)
               · skip
                 refine Kd.XG (Kd.int .i64) _ 3 ?hg (N := 54) ?hd (xs := ([(Ze l0 x9_1).f0,wrap64 (((Ze l0 x9_1).f0) + ((Ze l0 x9_1).f2))] : List Int)) (inner := [.int .i64 ((Ze l0 x9_1).f0),.int .i64 (wrap64 (((Ze l0 x9_1).f0) + ((Ze l0 x9_1).f2)))]) (ok := fun _ => True) (okp := fun _ => True) ?hr ?hp (fun _ hk => hk) trivial (Below.refl _ _) (Nat.le_refl _) (by simp) ?_;(case hd => rfl);(case hg => rfl);(case hr => first | (go_simp;done) | (go_simp;rfl));(case hp => exact (Reps.one (show Kd.M (Kd.int .i64) _ _ _ ((Ze l0 x9_1).f0) [.int .i64 ((Ze l0 x9_1).f0)] from rfl) (Reps.one (show Kd.M (Kd.int .i64) _ _ _ (wrap64 (((Ze l0 x9_1).f0) + ((Ze l0 x9_1).f2))) [.int .i64 (wrap64 (((Ze l0 x9_1).f0) + ((Ze l0 x9_1).f2)))] from rfl) (Reps.none _ _))));intro v302 w15 ho16 hb hg_ hnew_;clear hg_ hnew_
                 (first | rw [← Ny301.out] at ho16 | (simp only [Int.reduceToNat] at ho16;rw [← Ny301.out] at ho16))
                 have n0_ := Zb.mk (Kd.ZY (by (with_reducible repeat (first | apply Kd.Zj | apply Kd.Zi | apply Kd.Zm));exact HO_7.out) (Kd.Xn ho16) hb);have n1_ := Zb.mk (Kd.ZY (by (with_reducible repeat (first | apply Kd.Zj | apply Kd.Zi | apply Kd.Zm));exact HO_8.out) (Kd.Xn ho16) hb);have n2_ := Zb.mk (Kd.Xd (Kd.Xp (Kd.Xp ho16 (Kd.R_lt (by (with_reducible repeat (first | apply Kd.Zj | apply Kd.Zi | apply Kd.Zm));exact HO_7.out))) (Kd.R_lt (by (with_reducible repeat (first | apply Kd.Zj | apply Kd.Zi | apply Kd.Zm));exact HO_8.out))) (Zp (by repeat (first | (with_reducible first | exact HB.out | apply Zf | apply Za | apply Zd | refine Zo ?_ GE299.out) | exact HB.out))));have n3_ := Zb.mk (ZG (g := gb299) (o := .cells #[.int .i64 ((Ze l0 x9_1).f0),.int .i64 ((Ze l0 x9_1).f1),.int .i64 ((Ze l0 x9_1).f2),.int .i64 ((Ze l0 x9_1).f3)] 43 (0,0)) (by (with_reducible repeat (first | refine Zl ?_ _ | refine Zn ?_ | refine Zk ?_ _));exact BK299.out) hb);have n4_ := Zb.mk (Zr (by repeat (first | (with_reducible first | exact HB.out | apply Zf | apply Za | apply Zd | refine Zo ?_ GE299.out) | exact HB.out)) hb);clear HO_7;clear HO_8;clear BK299;clear HB;have HO_7 := n0_;have HO_8 := n1_;have HO303 := n2_;have BK299 := n3_;have HB := n4_;clear n0_ n1_ n2_ n3_ n4_;clear hb ho16;obtain ⟨Ao18,co18,eo18⟩ := Kd.ZS HO303.out
                 (first | subst eo18 | (injection eo18 with f1_ f2_ f3_;have f4_ := f1_.symm;have f5_ := f3_.symm;clear f1_ f2_ f3_;subst f4_;subst f5_))
                 refine hK.out _ _ ⟨(Zg BK299.out 0).trans rfl,(Zg BK299.out 1).trans rfl,(Zg BK299.out 2).trans rfl,(Zg BK299.out 3).trans rfl⟩ (fun hHeld => ?_);clear hK K;refine norm_ (a' := ?_) ?_ ?_;rotate_left
                 · show Act.put _ (some 54) _ = _
                   simp only [Act.put,V9,VA,VB,i64_w,i32_w];rfl
                 refine two_ (i := 9) (j := 18) (Ni := some 55) (Nj := some 64) #[U,U,U,U,U,U,U,U,U,U,U,U,U,U,U,U,U,U,Z,Z,Z,Z] #[U,U,U,U,U,U,U,U,U,Z,U,U,U,U,U,U,U,U,U,Z,Z,Z] rfl rfl rfl rfl (JC HT_.out (by kernel_rfl)) (by decide) (by decide) (fun K hK => ?_) (fun K hK => ?_)
                 · skip
                   refine Kd.Xl (Kd.int .i64) (w0 := w) w.heap.size (by rfl) (.tmp 46) (.tmp 54) 32 3 (.int .i64 0) 8 rfl Try.underlying32 info3 rfl (by decide) (by omega) (.slice Ao11 x7_1.length co11) x7_1 y301 _ _ _ (fun k_ => some k_ ≠ (.slice Ao12 x8_1.length co12 : Value).ownBlock ∧ some k_ ≠ (.slice Ao18 y301.length co18 : Value).ownBlock) (fun _ => False) rfl rfl ?aO ?aR (fun _ _ h => h) (fun _ h => h.elim) ?aF ?aB ?aS ?aL ?_
                   (case aR => repeat (first | exact (Kd.Z3 HO303.out).2.2 | (with_reducible refine Kd.Z9 ?_ _) | (with_reducible refine Kd.ZA ?_ _) | (with_reducible refine Kd.ZO ?_)))
                   (case aB => exact (by repeat (first | (with_reducible first | exact HB.out | apply Zf | apply Za | apply Zd | refine Zo ?_ GE299.out) | exact HB.out)))
                   (case aF => exact (fun k_ hk => ⟨Kd.fresh' (Kd.R_lt (by (with_reducible repeat (first | apply Kd.Zj | apply Kd.Zi | apply Kd.Zm));exact HO_8.out)) k_ hk,Kd.fresh' (Kd.R_lt (by (with_reducible repeat (first | apply Kd.Zj | apply Kd.Zi | apply Kd.Zm));exact HO303.out)) k_ hk⟩))
                   (case aO => exact (by (with_reducible repeat (first | apply Kd.Zj | apply Kd.Zi | apply Kd.Zm));exact HO_7.out))
                   (case aS => exact (Zp (by repeat (first | (with_reducible first | exact HB.out | apply Zf | apply Za | apply Zd | refine Zo ?_ GE299.out) | exact HB.out))))
                   (case aL => have := LMc7.out;omega)
                   intro v305 w17 ho hb hg hat
                   rw [← Ny304.out] at ho;have n0_ := Zb.mk (Kd.Xt (ok := (fun k_ => some k_ ≠ (.slice Ao18 y301.length co18 : Value).ownBlock)) (by (with_reducible repeat (first | apply Kd.Zj | apply Kd.Zi | apply Kd.Zm));exact Kd.ZE HO_8.out (fun _ hk => ⟨hk.2,hk.1⟩)) hg hat);have n1_ := Zb.mk (XY (g := gb299) (o := .cells #[.int .i64 ((Ze l0 x9_1).f0),.int .i64 ((Ze l0 x9_1).f1),.int .i64 ((Ze l0 x9_1).f2),.int .i64 ((Ze l0 x9_1).f3)] 43 (0,0)) (by (with_reducible repeat (first | refine Zl ?_ _ | refine Zn ?_ | refine Zk ?_ _));exact BK299.out) hg (Kd.R_ne HO_7.out BK299.out (by decide)));have n2_ := Zb.mk (Kd.Xt (ok := (fun k_ => some k_ ≠ (.slice Ao12 x8_1.length co12 : Value).ownBlock)) (by (with_reducible repeat (first | apply Kd.Zj | apply Kd.Zi | apply Kd.Zm));exact Kd.ZE HO303.out (fun _ hk => ⟨hk.2,hk.1.2⟩)) hg hat);have n3_ := Zb.mk (hb);have n4_ := Zb.mk (ho);clear HO_8;clear BK299;clear HO303;clear HB;clear HO_7;have HO_8 := n0_;have BK299 := n1_;have HO303 := n2_;have HB := n3_;have HO306 := n4_;clear n0_ n1_ n2_ n3_ n4_
                   clear ho hb hg hat
                   refine hK.out _ _ ⟨(Zg BK299.out 0).trans rfl,(Zg BK299.out 1).trans rfl,(Zg BK299.out 2).trans rfl,(Zg BK299.out 3).trans rfl⟩ (fun hHeld => ?_);clear hK K;refine norm_ (a' := ?_) ?_ ?_;rotate_left
                   · show Act.put _ (some 55) _ = _
                     simp only [Act.put,V9,VA,VB,i64_w,i32_w];rfl
                   refine one_ (i := 18) (N := some 64) #[U,U,U,U,U,U,U,U,U,U,U,U,U,U,U,U,U,U,U,Z,Z,Z] rfl rfl (XB HT_.out (by kernel_rfl)) (by decide) (fun K hK => ?_);refine Kd.XG (Kd.int .i64) _ 3 ?hg (N := 64) ?hd (xs := ([(Ze l0 x9_1).f1,wrap64 (((Ze l0 x9_1).f1) + ((Ze l0 x9_1).f3))] : List Int)) (inner := [.int .i64 ((Ze l0 x9_1).f1),.int .i64 (wrap64 (((Ze l0 x9_1).f1) + ((Ze l0 x9_1).f3)))]) (ok := fun _ => True) (okp := fun _ => True) ?hr ?hp (fun _ hk => hk) trivial (Below.refl _ _) (Nat.le_refl _) (by simp) ?_;(case hd => rfl);(case hg => rfl);(case hr => first | (go_simp;done) | (go_simp;rfl));(case hp => exact (Reps.one (show Kd.M (Kd.int .i64) _ _ _ ((Ze l0 x9_1).f1) [.int .i64 ((Ze l0 x9_1).f1)] from rfl) (Reps.one (show Kd.M (Kd.int .i64) _ _ _ (wrap64 (((Ze l0 x9_1).f1) + ((Ze l0 x9_1).f3))) [.int .i64 (wrap64 (((Ze l0 x9_1).f1) + ((Ze l0 x9_1).f3)))] from rfl) (Reps.none _ _))));intro v308 w19 ho20 hb hg_ hnew_;clear hg_ hnew_
                   (first | rw [← Ny307.out] at ho20 | (simp only [Int.reduceToNat] at ho20;rw [← Ny307.out] at ho20))
                   have n0_ := Zb.mk (Kd.ZY (by (with_reducible repeat (first | apply Kd.Zj | apply Kd.Zi | apply Kd.Zm));exact HO_8.out) (Kd.Xn ho20) hb);have n1_ := Zb.mk (Kd.ZY (by (with_reducible repeat (first | apply Kd.Zj | apply Kd.Zi | apply Kd.Zm));exact HO303.out) (Kd.Xn ho20) hb);have n2_ := Zb.mk (Kd.ZY (by (with_reducible repeat (first | apply Kd.Zj | apply Kd.Zi | apply Kd.Zm));exact HO306.out) (Kd.Xn ho20) hb);have n3_ := Zb.mk (Kd.Xd (Kd.Xp (Kd.Xp (Kd.Xp ho20 (Kd.R_lt (by (with_reducible repeat (first | apply Kd.Zj | apply Kd.Zi | apply Kd.Zm));exact HO_8.out))) (Kd.R_lt (by (with_reducible repeat (first | apply Kd.Zj | apply Kd.Zi | apply Kd.Zm));exact HO303.out))) (Kd.R_lt (by (with_reducible repeat (first | apply Kd.Zj | apply Kd.Zi | apply Kd.Zm));exact HO306.out))) (Zp (by repeat (first | (with_reducible first | exact HB.out | apply Zf | apply Za | apply Zd | refine Zo ?_ GE299.out) | exact HB.out))));have n4_ := Zb.mk (ZG (g := gb299) (o := .cells #[.int .i64 ((Ze l0 x9_1).f0),.int .i64 ((Ze l0 x9_1).f1),.int .i64 ((Ze l0 x9_1).f2),.int .i64 ((Ze l0 x9_1).f3)] 43 (0,0)) (by (with_reducible repeat (first | refine Zl ?_ _ | refine Zn ?_ | refine Zk ?_ _));exact BK299.out) hb);have n5_ := Zb.mk (Zr (by repeat (first | (with_reducible first | exact HB.out | apply Zf | apply Za | apply Zd | refine Zo ?_ GE299.out) | exact HB.out)) hb);clear HO_8;clear HO303;clear HO306;clear BK299;clear HB;have HO_8 := n0_;have HO303 := n1_;have HO306 := n2_;have HO309 := n3_;have BK299 := n4_;have HB := n5_;clear n0_ n1_ n2_ n3_ n4_ n5_;clear hb ho20;refine hK.out _ _ ⟨(Zg BK299.out 0).trans rfl,(Zg BK299.out 1).trans rfl,(Zg BK299.out 2).trans rfl,(Zg BK299.out 3).trans rfl⟩ (fun hHeld => ?_);clear hK K;refine norm_ (a' := ?_) ?_ ?_;rotate_left
                   · show Act.put _ (some 64) _ = _
                     simp only [Act.put,V9,VA,VB,i64_w,i32_w];rfl
                   exact norm_ (by simp only [putAll,Act.put,List.setIfInBounds_toArray,List.set_cons_zero,List.set_cons_succ]) (hCont (.slice Ao18 y301.length co18,v305,v308) _ ⟨hHeld,(by (with_reducible repeat (first | apply Kd.Zj | apply Kd.Zi | apply Kd.Zm));exact Kd.ZE HO303.out (fun _ hk => ⟨hk.1.2,⟨hk.2,hk.1.1⟩⟩)),(by (with_reducible repeat (first | apply Kd.Zj | apply Kd.Zi | apply Kd.Zm));exact Kd.ZE HO306.out (fun _ hk => ⟨hk.1.2,⟨hk.2,hk.1.1⟩⟩)),(by (with_reducible repeat (first | apply Kd.Zj | apply Kd.Zi | apply Kd.Zm));exact Kd.ZE HO309.out (fun _ hk => ⟨hk.1.2,⟨hk.2,hk.1.1.2⟩⟩)),(by (with_reducible repeat (first | apply Kd.Zj | apply Kd.Zi | apply Kd.Zm));exact Kd.ZE HO_8.out (fun _ hk => ⟨hk.1.1,⟨hk.1.2,hk.2⟩⟩)),(by (with_reducible repeat (first | refine Zl ?_ _ | refine Zn ?_ | refine Zk ?_ _));exact BK299.out),(by repeat (first | (with_reducible first | exact HB.out | apply Zf | apply Za | apply Zd | refine Zo ?_ GE299.out) | exact HB.out))⟩)
                 · skip
                   refine Kd.XG (Kd.int .i64) _ 3 ?hg (N := 64) ?hd (xs := ([(Ze l0 x9_1).f1,wrap64 (((Ze l0 x9_1).f1) + ((Ze l0 x9_1).f3))] : List Int)) (inner := [.int .i64 ((Ze l0 x9_1).f1),.int .i64 (wrap64 (((Ze l0 x9_1).f1) + ((Ze l0 x9_1).f3)))]) (ok := fun _ => True) (okp := fun _ => True) ?hr ?hp (fun _ hk => hk) trivial (Below.refl _ _) (Nat.le_refl _) (by simp) ?_;(case hd => rfl);(case hg => rfl);(case hr => first | (go_simp;done) | (go_simp;rfl));(case hp => exact (Reps.one (show Kd.M (Kd.int .i64) _ _ _ ((Ze l0 x9_1).f1) [.int .i64 ((Ze l0 x9_1).f1)] from rfl) (Reps.one (show Kd.M (Kd.int .i64) _ _ _ (wrap64 (((Ze l0 x9_1).f1) + ((Ze l0 x9_1).f3))) [.int .i64 (wrap64 (((Ze l0 x9_1).f1) + ((Ze l0 x9_1).f3)))] from rfl) (Reps.none _ _))));intro v308 w17 ho18 hb hg_ hnew_;clear hg_ hnew_
                   (first | rw [← Ny307.out] at ho18 | (simp only [Int.reduceToNat] at ho18;rw [← Ny307.out] at ho18))
                   have n0_ := Zb.mk (Kd.ZY (by (with_reducible repeat (first | apply Kd.Zj | apply Kd.Zi | apply Kd.Zm));exact HO_7.out) (Kd.Xn ho18) hb);have n1_ := Zb.mk (Kd.ZY (by (with_reducible repeat (first | apply Kd.Zj | apply Kd.Zi | apply Kd.Zm));exact HO_8.out) (Kd.Xn ho18) hb);have n2_ := Zb.mk (Kd.ZY (by (with_reducible repeat (first | apply Kd.Zj | apply Kd.Zi | apply Kd.Zm));exact HO303.out) (Kd.Xn ho18) hb);have n3_ := Zb.mk (Kd.Xd (Kd.Xp (Kd.Xp (Kd.Xp ho18 (Kd.R_lt (by (with_reducible repeat (first | apply Kd.Zj | apply Kd.Zi | apply Kd.Zm));exact HO_7.out))) (Kd.R_lt (by (with_reducible repeat (first | apply Kd.Zj | apply Kd.Zi | apply Kd.Zm));exact HO_8.out))) (Kd.R_lt (by (with_reducible repeat (first | apply Kd.Zj | apply Kd.Zi | apply Kd.Zm));exact HO303.out))) (Zp (by repeat (first | (with_reducible first | exact HB.out | apply Zf | apply Za | apply Zd | refine Zo ?_ GE299.out) | exact HB.out))));have n4_ := Zb.mk (ZG (g := gb299) (o := .cells #[.int .i64 ((Ze l0 x9_1).f0),.int .i64 ((Ze l0 x9_1).f1),.int .i64 ((Ze l0 x9_1).f2),.int .i64 ((Ze l0 x9_1).f3)] 43 (0,0)) (by (with_reducible repeat (first | refine Zl ?_ _ | refine Zn ?_ | refine Zk ?_ _));exact BK299.out) hb);have n5_ := Zb.mk (Zr (by repeat (first | (with_reducible first | exact HB.out | apply Zf | apply Za | apply Zd | refine Zo ?_ GE299.out) | exact HB.out)) hb);clear HO_7;clear HO_8;clear HO303;clear BK299;clear HB;have HO_7 := n0_;have HO_8 := n1_;have HO303 := n2_;have HO309 := n3_;have BK299 := n4_;have HB := n5_;clear n0_ n1_ n2_ n3_ n4_ n5_;clear hb ho18;obtain ⟨Ao20,co20,eo20⟩ := Kd.ZS HO303.out
                   (first | subst eo20 | (injection eo20 with f1_ f2_ f3_;have f4_ := f1_.symm;have f5_ := f3_.symm;clear f1_ f2_ f3_;subst f4_;subst f5_))
                   refine hK.out _ _ ⟨(Zg BK299.out 0).trans rfl,(Zg BK299.out 1).trans rfl,(Zg BK299.out 2).trans rfl,(Zg BK299.out 3).trans rfl⟩ (fun hHeld => ?_);clear hK K;refine norm_ (a' := ?_) ?_ ?_;rotate_left
                   · show Act.put _ (some 64) _ = _
                     simp only [Act.put,V9,VA,VB,i64_w,i32_w];rfl
                   refine one_ (i := 9) (N := some 55) #[U,U,U,U,U,U,U,U,U,U,U,U,U,U,U,U,U,U,U,Z,Z,Z] rfl rfl (XB HT_.out (by kernel_rfl)) (by decide) (fun K hK => ?_);refine Kd.Xl (Kd.int .i64) (w0 := w) w.heap.size (by rfl) (.tmp 46) (.tmp 54) 32 3 (.int .i64 0) 8 rfl Try.underlying32 info3 rfl (by decide) (by omega) (.slice Ao11 x7_1.length co11) x7_1 y301 _ _ _ (fun k_ => some k_ ≠ (.slice Ao12 x8_1.length co12 : Value).ownBlock ∧ some k_ ≠ (.slice Ao20 y301.length co20 : Value).ownBlock ∧ some k_ ≠ (v308 : Value).ownBlock) (fun _ => False) rfl rfl ?aO ?aR (fun _ _ h => h) (fun _ h => h.elim) ?aF ?aB ?aS ?aL ?_
                   (case aR => repeat (first | exact (Kd.Z3 HO303.out).2.2 | (with_reducible refine Kd.Z9 ?_ _) | (with_reducible refine Kd.ZA ?_ _) | (with_reducible refine Kd.ZO ?_)))
                   (case aB => exact (by repeat (first | (with_reducible first | exact HB.out | apply Zf | apply Za | apply Zd | refine Zo ?_ GE299.out) | exact HB.out)))
                   (case aF => exact (fun k_ hk => ⟨Kd.fresh' (Kd.R_lt (by (with_reducible repeat (first | apply Kd.Zj | apply Kd.Zi | apply Kd.Zm));exact HO_8.out)) k_ hk,Kd.fresh' (Kd.R_lt (by (with_reducible repeat (first | apply Kd.Zj | apply Kd.Zi | apply Kd.Zm));exact HO303.out)) k_ hk,Kd.fresh' (Kd.R_lt (by (with_reducible repeat (first | apply Kd.Zj | apply Kd.Zi | apply Kd.Zm));exact HO309.out)) k_ hk⟩))
                   (case aO => exact (by (with_reducible repeat (first | apply Kd.Zj | apply Kd.Zi | apply Kd.Zm));exact Kd.ZE HO_7.out (fun _ hk => ⟨hk.1.1,⟨hk.1.2,hk.2⟩⟩)))
                   (case aS => exact (Zp (by repeat (first | (with_reducible first | exact HB.out | apply Zf | apply Za | apply Zd | refine Zo ?_ GE299.out) | exact HB.out))))
                   (case aL => have := LMc7.out;omega)
                   intro v305 w19 ho hb hg hat
                   rw [← Ny304.out] at ho;have n0_ := Zb.mk (Kd.Xt (ok := (fun k_ => some k_ ≠ (.slice Ao20 y301.length co20 : Value).ownBlock ∧ some k_ ≠ (v308 : Value).ownBlock)) (by (with_reducible repeat (first | apply Kd.Zj | apply Kd.Zi | apply Kd.Zm));exact Kd.ZE HO_8.out (fun _ hk => ⟨⟨hk.1.2,hk.2⟩,hk.1.1⟩)) hg hat);have n1_ := Zb.mk (XY (g := gb299) (o := .cells #[.int .i64 ((Ze l0 x9_1).f0),.int .i64 ((Ze l0 x9_1).f1),.int .i64 ((Ze l0 x9_1).f2),.int .i64 ((Ze l0 x9_1).f3)] 43 (0,0)) (by (with_reducible repeat (first | refine Zl ?_ _ | refine Zn ?_ | refine Zk ?_ _));exact BK299.out) hg (Kd.R_ne HO_7.out BK299.out (by decide)));have n2_ := Zb.mk (Kd.Xt (ok := (fun k_ => some k_ ≠ (.slice Ao12 x8_1.length co12 : Value).ownBlock ∧ some k_ ≠ (v308 : Value).ownBlock)) (by (with_reducible repeat (first | apply Kd.Zj | apply Kd.Zi | apply Kd.Zm));exact Kd.ZE HO303.out (fun _ hk => ⟨⟨hk.1.2,hk.2⟩,hk.1.1.2⟩)) hg hat);have n3_ := Zb.mk (Kd.Xt (ok := (fun k_ => some k_ ≠ (.slice Ao12 x8_1.length co12 : Value).ownBlock ∧ some k_ ≠ (.slice Ao20 y301.length co20 : Value).ownBlock)) (by (with_reducible repeat (first | apply Kd.Zj | apply Kd.Zi | apply Kd.Zm));exact Kd.ZE HO309.out (fun _ hk => ⟨⟨hk.1.2,hk.2⟩,hk.1.1.2⟩)) hg hat);have n4_ := Zb.mk (hb);have n5_ := Zb.mk (ho);clear HO_8;clear BK299;clear HO303;clear HO309;clear HB;clear HO_7;have HO_8 := n0_;have BK299 := n1_;have HO303 := n2_;have HO309 := n3_;have HB := n4_;have HO306 := n5_;clear n0_ n1_ n2_ n3_ n4_ n5_
                   clear ho hb hg hat
                   refine hK.out _ _ ⟨(Zg BK299.out 0).trans rfl,(Zg BK299.out 1).trans rfl,(Zg BK299.out 2).trans rfl,(Zg BK299.out 3).trans rfl⟩ (fun hHeld => ?_);clear hK K;refine norm_ (a' := ?_) ?_ ?_;rotate_left
                   · show Act.put _ (some 55) _ = _
                     simp only [Act.put,V9,VA,VB,i64_w,i32_w];rfl
                   exact norm_ (by simp only [putAll,Act.put,List.setIfInBounds_toArray,List.set_cons_zero,List.set_cons_succ]) (hCont (.slice Ao20 y301.length co20,v305,v308) _ ⟨hHeld,(by (with_reducible repeat (first | apply Kd.Zj | apply Kd.Zi | apply Kd.Zm));exact Kd.ZE HO303.out (fun _ hk => ⟨hk.2,⟨hk.1.2,hk.1.1⟩⟩)),(by (with_reducible repeat (first | apply Kd.Zj | apply Kd.Zi | apply Kd.Zm));exact Kd.ZE HO306.out (fun _ hk => ⟨hk.2.1,⟨hk.2.2,hk.1⟩⟩)),(by (with_reducible repeat (first | apply Kd.Zj | apply Kd.Zi | apply Kd.Zm));exact Kd.ZE HO309.out (fun _ hk => ⟨hk.1.2,⟨hk.2,hk.1.1⟩⟩)),(by (with_reducible repeat (first | apply Kd.Zj | apply Kd.Zi | apply Kd.Zm));exact Kd.ZE HO_8.out (fun _ hk => ⟨hk.1.1,⟨hk.2,hk.1.2⟩⟩)),(by (with_reducible repeat (first | refine Zl ?_ _ | refine Zn ?_ | refine Zk ?_ _));exact BK299.out),(by repeat (first | (with_reducible first | exact HB.out | apply Zf | apply Za | apply Zd | refine Zo ?_ GE299.out) | exact HB.out))⟩)
               · skip
                 refine Kd.XG (Kd.int .i64) _ 3 ?hg (N := 64) ?hd (xs := ([(Ze l0 x9_1).f1,wrap64 (((Ze l0 x9_1).f1) + ((Ze l0 x9_1).f3))] : List Int)) (inner := [.int .i64 ((Ze l0 x9_1).f1),.int .i64 (wrap64 (((Ze l0 x9_1).f1) + ((Ze l0 x9_1).f3)))]) (ok := fun _ => True) (okp := fun _ => True) ?hr ?hp (fun _ hk => hk) trivial (Below.refl _ _) (Nat.le_refl _) (by simp) ?_;(case hd => rfl);(case hg => rfl);(case hr => first | (go_simp;done) | (go_simp;rfl));(case hp => exact (Reps.one (show Kd.M (Kd.int .i64) _ _ _ ((Ze l0 x9_1).f1) [.int .i64 ((Ze l0 x9_1).f1)] from rfl) (Reps.one (show Kd.M (Kd.int .i64) _ _ _ (wrap64 (((Ze l0 x9_1).f1) + ((Ze l0 x9_1).f3))) [.int .i64 (wrap64 (((Ze l0 x9_1).f1) + ((Ze l0 x9_1).f3)))] from rfl) (Reps.none _ _))));intro v308 w15 ho16 hb hg_ hnew_;clear hg_ hnew_
                 (first | rw [← Ny307.out] at ho16 | (simp only [Int.reduceToNat] at ho16;rw [← Ny307.out] at ho16))
                 have n0_ := Zb.mk (Kd.ZY (by (with_reducible repeat (first | apply Kd.Zj | apply Kd.Zi | apply Kd.Zm));exact HO_7.out) (Kd.Xn ho16) hb);have n1_ := Zb.mk (Kd.ZY (by (with_reducible repeat (first | apply Kd.Zj | apply Kd.Zi | apply Kd.Zm));exact HO_8.out) (Kd.Xn ho16) hb);have n2_ := Zb.mk (Kd.Xd (Kd.Xp (Kd.Xp ho16 (Kd.R_lt (by (with_reducible repeat (first | apply Kd.Zj | apply Kd.Zi | apply Kd.Zm));exact HO_7.out))) (Kd.R_lt (by (with_reducible repeat (first | apply Kd.Zj | apply Kd.Zi | apply Kd.Zm));exact HO_8.out))) (Zp (by repeat (first | (with_reducible first | exact HB.out | apply Zf | apply Za | apply Zd | refine Zo ?_ GE299.out) | exact HB.out))));have n3_ := Zb.mk (ZG (g := gb299) (o := .cells #[.int .i64 ((Ze l0 x9_1).f0),.int .i64 ((Ze l0 x9_1).f1),.int .i64 ((Ze l0 x9_1).f2),.int .i64 ((Ze l0 x9_1).f3)] 43 (0,0)) (by (with_reducible repeat (first | refine Zl ?_ _ | refine Zn ?_ | refine Zk ?_ _));exact BK299.out) hb);have n4_ := Zb.mk (Zr (by repeat (first | (with_reducible first | exact HB.out | apply Zf | apply Za | apply Zd | refine Zo ?_ GE299.out) | exact HB.out)) hb);clear HO_7;clear HO_8;clear BK299;clear HB;have HO_7 := n0_;have HO_8 := n1_;have HO309 := n2_;have BK299 := n3_;have HB := n4_;clear n0_ n1_ n2_ n3_ n4_;clear hb ho16;refine hK.out _ _ ⟨(Zg BK299.out 0).trans rfl,(Zg BK299.out 1).trans rfl,(Zg BK299.out 2).trans rfl,(Zg BK299.out 3).trans rfl⟩ (fun hHeld => ?_);clear hK K;refine norm_ (a' := ?_) ?_ ?_;rotate_left
                 · show Act.put _ (some 64) _ = _
                   simp only [Act.put,V9,VA,VB,i64_w,i32_w];rfl
                 refine one_ (i := 8) (N := some 54) #[U,U,U,U,U,U,U,U,U,Z,U,U,U,U,U,U,U,U,U,Z,Z,Z] rfl rfl (XB HT_.out (by kernel_rfl)) (by decide) (fun K hK => ?_);refine Kd.XG (Kd.int .i64) _ 3 ?hg (N := 54) ?hd (xs := ([(Ze l0 x9_1).f0,wrap64 (((Ze l0 x9_1).f0) + ((Ze l0 x9_1).f2))] : List Int)) (inner := [.int .i64 ((Ze l0 x9_1).f0),.int .i64 (wrap64 (((Ze l0 x9_1).f0) + ((Ze l0 x9_1).f2)))]) (ok := fun _ => True) (okp := fun _ => True) ?hr ?hp (fun _ hk => hk) trivial (Below.refl _ _) (Nat.le_refl _) (by simp) ?_;(case hd => rfl);(case hg => rfl);(case hr => first | (go_simp;done) | (go_simp;rfl));(case hp => exact (Reps.one (show Kd.M (Kd.int .i64) _ _ _ ((Ze l0 x9_1).f0) [.int .i64 ((Ze l0 x9_1).f0)] from rfl) (Reps.one (show Kd.M (Kd.int .i64) _ _ _ (wrap64 (((Ze l0 x9_1).f0) + ((Ze l0 x9_1).f2))) [.int .i64 (wrap64 (((Ze l0 x9_1).f0) + ((Ze l0 x9_1).f2)))] from rfl) (Reps.none _ _))));intro v302 w17 ho18 hb hg_ hnew_;clear hg_ hnew_
                 (first | rw [← Ny301.out] at ho18 | (simp only [Int.reduceToNat] at ho18;rw [← Ny301.out] at ho18))
                 have n0_ := Zb.mk (Kd.ZY (by (with_reducible repeat (first | apply Kd.Zj | apply Kd.Zi | apply Kd.Zm));exact HO_7.out) (Kd.Xn ho18) hb);have n1_ := Zb.mk (Kd.ZY (by (with_reducible repeat (first | apply Kd.Zj | apply Kd.Zi | apply Kd.Zm));exact HO_8.out) (Kd.Xn ho18) hb);have n2_ := Zb.mk (Kd.ZY (by (with_reducible repeat (first | apply Kd.Zj | apply Kd.Zi | apply Kd.Zm));exact HO309.out) (Kd.Xn ho18) hb);have n3_ := Zb.mk (Kd.Xd (Kd.Xp (Kd.Xp (Kd.Xp ho18 (Kd.R_lt (by (with_reducible repeat (first | apply Kd.Zj | apply Kd.Zi | apply Kd.Zm));exact HO_7.out))) (Kd.R_lt (by (with_reducible repeat (first | apply Kd.Zj | apply Kd.Zi | apply Kd.Zm));exact HO_8.out))) (Kd.R_lt (by (with_reducible repeat (first | apply Kd.Zj | apply Kd.Zi | apply Kd.Zm));exact HO309.out))) (Zp (by repeat (first | (with_reducible first | exact HB.out | apply Zf | apply Za | apply Zd | refine Zo ?_ GE299.out) | exact HB.out))));have n4_ := Zb.mk (ZG (g := gb299) (o := .cells #[.int .i64 ((Ze l0 x9_1).f0),.int .i64 ((Ze l0 x9_1).f1),.int .i64 ((Ze l0 x9_1).f2),.int .i64 ((Ze l0 x9_1).f3)] 43 (0,0)) (by (with_reducible repeat (first | refine Zl ?_ _ | refine Zn ?_ | refine Zk ?_ _));exact BK299.out) hb);have n5_ := Zb.mk (Zr (by repeat (first | (with_reducible first | exact HB.out | apply Zf | apply Za | apply Zd | refine Zo ?_ GE299.out) | exact HB.out)) hb);clear HO_7;clear HO_8;clear HO309;clear BK299;clear HB;have HO_7 := n0_;have HO_8 := n1_;have HO309 := n2_;have HO303 := n3_;have BK299 := n4_;have HB := n5_;clear n0_ n1_ n2_ n3_ n4_ n5_;clear hb ho18;obtain ⟨Ao20,co20,eo20⟩ := Kd.ZS HO303.out
                 (first | subst eo20 | (injection eo20 with f1_ f2_ f3_;have f4_ := f1_.symm;have f5_ := f3_.symm;clear f1_ f2_ f3_;subst f4_;subst f5_))
                 refine hK.out _ _ ⟨(Zg BK299.out 0).trans rfl,(Zg BK299.out 1).trans rfl,(Zg BK299.out 2).trans rfl,(Zg BK299.out 3).trans rfl⟩ (fun hHeld => ?_);clear hK K;refine norm_ (a' := ?_) ?_ ?_;rotate_left
                 · show Act.put _ (some 54) _ = _
                   simp only [Act.put,V9,VA,VB,i64_w,i32_w];rfl
                 refine one_ (i := 9) (N := some 55) #[U,U,U,U,U,U,U,U,U,U,U,U,U,U,U,U,U,U,U,Z,Z,Z] rfl rfl (XB HT_.out (by kernel_rfl)) (by decide) (fun K hK => ?_);refine Kd.Xl (Kd.int .i64) (w0 := w) w.heap.size (by rfl) (.tmp 46) (.tmp 54) 32 3 (.int .i64 0) 8 rfl Try.underlying32 info3 rfl (by decide) (by omega) (.slice Ao11 x7_1.length co11) x7_1 y301 _ _ _ (fun k_ => some k_ ≠ (.slice Ao12 x8_1.length co12 : Value).ownBlock ∧ some k_ ≠ (v308 : Value).ownBlock ∧ some k_ ≠ (.slice Ao20 y301.length co20 : Value).ownBlock) (fun _ => False) rfl rfl ?aO ?aR (fun _ _ h => h) (fun _ h => h.elim) ?aF ?aB ?aS ?aL ?_
                 (case aR => repeat (first | exact (Kd.Z3 HO303.out).2.2 | (with_reducible refine Kd.Z9 ?_ _) | (with_reducible refine Kd.ZA ?_ _) | (with_reducible refine Kd.ZO ?_)))
                 (case aB => exact (by repeat (first | (with_reducible first | exact HB.out | apply Zf | apply Za | apply Zd | refine Zo ?_ GE299.out) | exact HB.out)))
                 (case aF => exact (fun k_ hk => ⟨Kd.fresh' (Kd.R_lt (by (with_reducible repeat (first | apply Kd.Zj | apply Kd.Zi | apply Kd.Zm));exact HO_8.out)) k_ hk,Kd.fresh' (Kd.R_lt (by (with_reducible repeat (first | apply Kd.Zj | apply Kd.Zi | apply Kd.Zm));exact HO309.out)) k_ hk,Kd.fresh' (Kd.R_lt (by (with_reducible repeat (first | apply Kd.Zj | apply Kd.Zi | apply Kd.Zm));exact HO303.out)) k_ hk⟩))
                 (case aO => exact (by (with_reducible repeat (first | apply Kd.Zj | apply Kd.Zi | apply Kd.Zm));exact Kd.ZE HO_7.out (fun _ hk => ⟨hk.1.1,⟨hk.1.2,hk.2⟩⟩)))
                 (case aS => exact (Zp (by repeat (first | (with_reducible first | exact HB.out | apply Zf | apply Za | apply Zd | refine Zo ?_ GE299.out) | exact HB.out))))
                 (case aL => have := LMc7.out;omega)
                 intro v305 w19 ho hb hg hat
                 rw [← Ny304.out] at ho;have n0_ := Zb.mk (Kd.Xt (ok := (fun k_ => some k_ ≠ (v308 : Value).ownBlock ∧ some k_ ≠ (.slice Ao20 y301.length co20 : Value).ownBlock)) (by (with_reducible repeat (first | apply Kd.Zj | apply Kd.Zi | apply Kd.Zm));exact Kd.ZE HO_8.out (fun _ hk => ⟨⟨hk.1.2,hk.2⟩,hk.1.1⟩)) hg hat);have n1_ := Zb.mk (XY (g := gb299) (o := .cells #[.int .i64 ((Ze l0 x9_1).f0),.int .i64 ((Ze l0 x9_1).f1),.int .i64 ((Ze l0 x9_1).f2),.int .i64 ((Ze l0 x9_1).f3)] 43 (0,0)) (by (with_reducible repeat (first | refine Zl ?_ _ | refine Zn ?_ | refine Zk ?_ _));exact BK299.out) hg (Kd.R_ne HO_7.out BK299.out (by decide)));have n2_ := Zb.mk (Kd.Xt (ok := (fun k_ => some k_ ≠ (.slice Ao12 x8_1.length co12 : Value).ownBlock ∧ some k_ ≠ (.slice Ao20 y301.length co20 : Value).ownBlock)) (by (with_reducible repeat (first | apply Kd.Zj | apply Kd.Zi | apply Kd.Zm));exact Kd.ZE HO309.out (fun _ hk => ⟨⟨hk.1.2,hk.2⟩,hk.1.1.2⟩)) hg hat);have n3_ := Zb.mk (Kd.Xt (ok := (fun k_ => some k_ ≠ (.slice Ao12 x8_1.length co12 : Value).ownBlock ∧ some k_ ≠ (v308 : Value).ownBlock)) (by (with_reducible repeat (first | apply Kd.Zj | apply Kd.Zi | apply Kd.Zm));exact Kd.ZE HO303.out (fun _ hk => ⟨⟨hk.1.2,hk.2⟩,hk.1.1.2⟩)) hg hat);have n4_ := Zb.mk (hb);have n5_ := Zb.mk (ho);clear HO_8;clear BK299;clear HO309;clear HO303;clear HB;clear HO_7;have HO_8 := n0_;have BK299 := n1_;have HO309 := n2_;have HO303 := n3_;have HB := n4_;have HO306 := n5_;clear n0_ n1_ n2_ n3_ n4_ n5_
                 clear ho hb hg hat
                 refine hK.out _ _ ⟨(Zg BK299.out 0).trans rfl,(Zg BK299.out 1).trans rfl,(Zg BK299.out 2).trans rfl,(Zg BK299.out 3).trans rfl⟩ (fun hHeld => ?_);clear hK K;refine norm_ (a' := ?_) ?_ ?_;rotate_left
                 · show Act.put _ (some 55) _ = _
                   simp only [Act.put,V9,VA,VB,i64_w,i32_w];rfl
                 exact norm_ (by simp only [putAll,Act.put,List.setIfInBounds_toArray,List.set_cons_zero,List.set_cons_succ]) (hCont (.slice Ao20 y301.length co20,v305,v308) _ ⟨hHeld,(by (with_reducible repeat (first | apply Kd.Zj | apply Kd.Zi | apply Kd.Zm));exact Kd.ZE HO303.out (fun _ hk => ⟨hk.2,⟨hk.1.2,hk.1.1⟩⟩)),(by (with_reducible repeat (first | apply Kd.Zj | apply Kd.Zi | apply Kd.Zm));exact Kd.ZE HO306.out (fun _ hk => ⟨hk.2.2,⟨hk.2.1,hk.1⟩⟩)),(by (with_reducible repeat (first | apply Kd.Zj | apply Kd.Zi | apply Kd.Zm));exact Kd.ZE HO309.out (fun _ hk => ⟨hk.1.2,⟨hk.2,hk.1.1⟩⟩)),(by (with_reducible repeat (first | apply Kd.Zj | apply Kd.Zi | apply Kd.Zm));exact Kd.ZE HO_8.out (fun _ hk => ⟨hk.1.2,⟨hk.2,hk.1.1⟩⟩)),(by (with_reducible repeat (first | refine Zl ?_ _ | refine Zn ?_ | refine Zk ?_ _));exact BK299.out),(by repeat (first | (with_reducible first | exact HB.out | apply Zf | apply Za | apply Zd | refine Zo ?_ GE299.out) | exact HB.out))⟩)
             rintro ⟨v302,v305,v308⟩ w21 ⟨hS_,h0_,h1_,h2_,h3_,h4_,h5_⟩
             have n0_ : Zb (Kd.R (Kd.int .i64) 3 w21 w.heap.size (fun k_ => some k_ ≠ (v305 : Value).ownBlock ∧ some k_ ≠ (v308 : Value).ownBlock ∧ some k_ ≠ (.slice Ao12 x8_1.length co12 : Value).ownBlock) v302 y301) := ⟨h0_⟩
             have n1_ : Zb (Kd.R (Kd.int .i64) 3 w21 w.heap.size (fun k_ => some k_ ≠ (v302 : Value).ownBlock ∧ some k_ ≠ (v308 : Value).ownBlock ∧ some k_ ≠ (.slice Ao12 x8_1.length co12 : Value).ownBlock) v305 y304) := ⟨h1_⟩
             have n2_ : Zb (Kd.R (Kd.int .i64) 3 w21 w.heap.size (fun k_ => some k_ ≠ (v302 : Value).ownBlock ∧ some k_ ≠ (v305 : Value).ownBlock ∧ some k_ ≠ (.slice Ao12 x8_1.length co12 : Value).ownBlock) v308 y307) := ⟨h2_⟩
             have n3_ : Zb (Kd.R (Kd.int .i64) 3 w21 w.heap.size (fun k_ => some k_ ≠ (v302 : Value).ownBlock ∧ some k_ ≠ (v305 : Value).ownBlock ∧ some k_ ≠ (v308 : Value).ownBlock) (.slice Ao12 x8_1.length co12) x8_1) := ⟨h3_⟩
             have n4_ : Zb (w21.heap[gb299]? = some (.cells #[.int .i64 ((Ze l0 x9_1).f0),.int .i64 ((Ze l0 x9_1).f1),.int .i64 ((Ze l0 x9_1).f2),.int .i64 ((Ze l0 x9_1).f3)] 43 (0,0))) := ⟨h4_⟩
             have n5_ : Zb (Below w.heap.size w w21) := ⟨h5_⟩
             clear HO_7;clear HO_8;clear BK299;clear HB;clear h0_ h1_ h2_ h3_ h4_ h5_;have HO303 := n0_;have HO306 := n1_;have HO309 := n2_;have HO_8 := n3_;have BK299 := n4_;have HB := n5_;clear n0_ n1_ n2_ n3_ n4_ n5_;have hHeld : w21.cell? ⟨gb299,0,none⟩ = some (.int .i64 ((Ze l0 x9_1).f0)) ∧ w21.cell? ⟨gb299,1,none⟩ = some (.int .i64 ((Ze l0 x9_1).f1)) ∧ w21.cell? ⟨gb299,2,none⟩ = some (.int .i64 ((Ze l0 x9_1).f2)) ∧ w21.cell? ⟨gb299,3,none⟩ = some (.int .i64 ((Ze l0 x9_1).f3)) := hS_;obtain ⟨Ao23,co23,eo23⟩ := Kd.ZS HO309.out
             (first | subst eo23 | (injection eo23 with f1_ f2_ f3_;have f4_ := f1_.symm;have f5_ := f3_.symm;clear f1_ f2_ f3_;subst f4_;subst f5_))
             refine norm_ (a' := ?_) ?_ ?_;rotate_left
             · simp only [putAll,Act.put,List.setIfInBounds_toArray,List.set_cons_zero,List.set_cons_succ]
               rfl
             refine one_ (i := 19) (N := some 65) #[U,U,U,U,U,U,U,U,U,U,U,U,U,U,U,U,U,U,U,U,Z,Z] rfl rfl (XB HT_.out (by kernel_rfl)) (by decide) (fun K hK => ?_);refine Kd.Xl (Kd.int .i64) (w0 := w) w.heap.size (by rfl) (.tmp 56) (.tmp 64) 32 3 (.int .i64 0) 8 rfl Try.underlying32 info3 rfl (by decide) (by omega) (.slice Ao12 x8_1.length co12) x8_1 y307 _ _ _ (fun k_ => some k_ ≠ (v302 : Value).ownBlock ∧ some k_ ≠ (v305 : Value).ownBlock ∧ some k_ ≠ (.slice Ao23 y307.length co23 : Value).ownBlock) (fun _ => False) rfl rfl ?aO ?aR (fun _ _ h => h) (fun _ h => h.elim) ?aF ?aB ?aS ?aL ?_
             (case aR => repeat (first | exact (Kd.Z3 HO309.out).2.2 | (with_reducible refine Kd.Z9 ?_ _) | (with_reducible refine Kd.ZA ?_ _) | (with_reducible refine Kd.ZO ?_)))
             (case aB => exact (by repeat (first | (with_reducible first | exact HB.out | apply Zf | apply Za | apply Zd | refine Zo ?_ GE299.out) | exact HB.out)))
             (case aF => exact (fun k_ hk => ⟨Kd.fresh' (Kd.R_lt (by (with_reducible repeat (first | apply Kd.Zj | apply Kd.Zi | apply Kd.Zm));exact HO303.out)) k_ hk,Kd.fresh' (Kd.R_lt (by (with_reducible repeat (first | apply Kd.Zj | apply Kd.Zi | apply Kd.Zm));exact HO306.out)) k_ hk,Kd.fresh' (Kd.R_lt (by (with_reducible repeat (first | apply Kd.Zj | apply Kd.Zi | apply Kd.Zm));exact HO309.out)) k_ hk⟩))
             (case aO => exact (by (with_reducible repeat (first | apply Kd.Zj | apply Kd.Zi | apply Kd.Zm));exact HO_8.out))
             (case aS => exact (Zp (by repeat (first | (with_reducible first | exact HB.out | apply Zf | apply Za | apply Zd | refine Zo ?_ GE299.out) | exact HB.out))))
             (case aL => have := LMc8.out;omega)
             intro v311 w22 ho hb hg hat
             rw [← Ny310.out] at ho;have n0_ := Zb.mk (XY (g := gb299) (o := .cells #[.int .i64 ((Ze l0 x9_1).f0),.int .i64 ((Ze l0 x9_1).f1),.int .i64 ((Ze l0 x9_1).f2),.int .i64 ((Ze l0 x9_1).f3)] 43 (0,0)) (by (with_reducible repeat (first | refine Zl ?_ _ | refine Zn ?_ | refine Zk ?_ _));exact BK299.out) hg (Kd.R_ne HO_8.out BK299.out (by decide)));have n1_ := Zb.mk (Kd.Xt (ok := (fun k_ => some k_ ≠ (v305 : Value).ownBlock ∧ some k_ ≠ (.slice Ao23 y307.length co23 : Value).ownBlock)) (by (with_reducible repeat (first | apply Kd.Zj | apply Kd.Zi | apply Kd.Zm));exact Kd.ZE HO303.out (fun _ hk => ⟨⟨hk.1,hk.2.1⟩,hk.2.2⟩)) hg hat);have n2_ := Zb.mk (Kd.Xt (ok := (fun k_ => some k_ ≠ (v302 : Value).ownBlock ∧ some k_ ≠ (.slice Ao23 y307.length co23 : Value).ownBlock)) (by (with_reducible repeat (first | apply Kd.Zj | apply Kd.Zi | apply Kd.Zm));exact Kd.ZE HO306.out (fun _ hk => ⟨⟨hk.1,hk.2.1⟩,hk.2.2⟩)) hg hat);have n3_ := Zb.mk (Kd.Xt (ok := (fun k_ => some k_ ≠ (v302 : Value).ownBlock ∧ some k_ ≠ (v305 : Value).ownBlock)) (by (with_reducible repeat (first | apply Kd.Zj | apply Kd.Zi | apply Kd.Zm));exact Kd.ZE HO309.out (fun _ hk => ⟨⟨hk.1,hk.2.1⟩,hk.2.2⟩)) hg hat);have n4_ := Zb.mk (hb);have n5_ := Zb.mk (ho);clear BK299;clear HO303;clear HO306;clear HO309;clear HB;clear HO_8;have BK299 := n0_;have HO303 := n1_;have HO306 := n2_;have HO309 := n3_;have HB := n4_;have HO312 := n5_;clear n0_ n1_ n2_ n3_ n4_ n5_
             clear ho hb hg hat
             refine hK.out _ _ ⟨(Zg BK299.out 0).trans rfl,(Zg BK299.out 1).trans rfl,(Zg BK299.out 2).trans rfl,(Zg BK299.out 3).trans rfl⟩ (fun hHeld => ?_);clear hK K;refine norm_ (a' := ?_) ?_ ?_;rotate_left
             · show Act.put _ (some 65) _ = _
               simp only [Act.put,V9,VA,VB,i64_w,i32_w];rfl
             refine pure_ (i := 20) (N := some 7) (v := ?_) (a' := ?_) #[U,U,U,U,U,U,U,U,U,U,U,U,U,U,U,U,U,U,U,U,U,Z] rfl rfl (Zs HT_.out (by kernel_rfl)) (fun _ _ _ h => h) (Or.inl ⟨by rfl,?_⟩) ?_ ?_;rotate_left
             · intro w'
               go_simp;with_reducible rfl
             rotate_left
             · simp only [Act.put,V9,VA,VB,i64_w,i32_w]
               rfl
             refine pure_ (i := 21) (N := some 8) (v := ?_) (a' := ?_) #[U,U,U,U,U,U,U,U,U,U,U,U,U,U,U,U,U,U,U,U,U,U] rfl rfl (Zs HT_.out (by kernel_rfl)) (fun _ _ _ h => h) (Or.inl ⟨by rfl,?_⟩) ?_ ?_;rotate_left
             · intro w'
               go_simp;with_reducible rfl
             rotate_left
             · simp only [Act.put,V9,VA,VB,i64_w,i32_w]
               rfl
             refine done_ (XV HT_.out (by kernel_rfl)) ?_
             try go_wp2
             go_roundg k1
             case measure => have := HK1.out;omega
             case rel => exact ⟨(y304),(y310),(wrap64 (x9_1 + 1)),(by first | rfl | (simp;done) | (simp [*];done)),H',⟨by have := HK1.out;omega⟩,⟨by (with_reducible repeat (first | apply Kd.Zj | apply Kd.Zi | apply Kd.Zm));exact Kd.ZE HO306.out (fun _ hk => hk.2)⟩,⟨by (with_reducible repeat (first | apply Kd.Zj | apply Kd.Zi | apply Kd.Zm));exact Kd.ZE HO312.out (fun _ hk => hk.2.1)⟩,⟨by repeat (first | (with_reducible first | exact HB.out | apply Zf | apply Za | apply Zd | refine Zo ?_ GE299.out) | exact HB.out)⟩⟩
           · rw [if_neg c8] at H
             exact absurd H (by simp)
         · rw [if_neg c7] at H
           exact absurd H (by simp)
       · rw [if_neg c6] at H
         exact absurd H (by simp)
     · rw [if_neg c5] at H
       have c5b0 : decide (x9_1 < (l0.length : Int)) = false := decide_eq_false c5;clear c5
       obtain ⟨ji24,hji24⟩ : ∃ j_ : Int,(wrap64 (x9_1 - (l0.length : Int))) = j_ := ⟨_,rfl⟩
       replace H : (if 0 ≤ (ji24) then (if (ji24) < (l1.length : Int) then ((some (([(Ze l1 (ji24)).f0,wrap64 (((Ze l1 (ji24)).f0) + ((Ze l1 (ji24)).f2))] : List Int) : List Int)).bind fun y314 => (if x7_1.length + y314.length < 17592186044416 then ((some (([(Ze l1 (ji24)).f1,wrap64 (((Ze l1 (ji24)).f1) + ((Ze l1 (ji24)).f3))] : List Int) : List Int)).bind fun y320 => (if x8_1.length + y320.length < 17592186044416 then (Zc.l0 k1 l0 l1 a2 (x7_1 ++ y314) (x8_1 ++ y320) (wrap64 (x9_1 + 1))) else (none))) else (none))) else (none)) else (none)) = some r := by first | (rw [hji24] at H;exact H) | (simp only [hji24] at H ⊢;exact H)
       have hji24w : (IntKind.i64.wrap (x9_1 - (l0.length : Int))) = ji24 := (i64_w _).trans hji24
       by_cases c25 : 0 ≤ (ji24)
       · rw [if_pos c25] at H
         have c25b0 : decide (0 ≤ (ji24)) = true := decide_eq_true c25;clear c25
         by_cases c26 : (ji24) < (l1.length : Int)
         · rw [if_pos c26] at H
           have c26b0 : decide ((ji24) < (l1.length : Int)) = true := decide_eq_true c26;clear c26
           obtain ⟨y314,hy314⟩ : ∃ y_ : List Int,y_ = (([(Ze l1 (ji24)).f0,wrap64 (((Ze l1 (ji24)).f0) + ((Ze l1 (ji24)).f2))] : List Int)) := ⟨_,rfl⟩
           replace H : (if x7_1.length + y314.length < 17592186044416 then ((some (([(Ze l1 (ji24)).f1,wrap64 (((Ze l1 (ji24)).f1) + ((Ze l1 (ji24)).f3))] : List Int) : List Int)).bind fun y320 => (if x8_1.length + y320.length < 17592186044416 then (Zc.l0 k1 l0 l1 a2 (x7_1 ++ y314) (x8_1 ++ y320) (wrap64 (x9_1 + 1))) else (none))) else (none)) = some r := by first | (rw [hy314];with_reducible exact H) | (have H2_ := (Option.bind_some _ _).symm.trans H;rw [hy314];with_reducible exact H2_) | (have H2_ := (Option.bind_some _ _).symm.trans H;with_reducible exact H2_) | with_reducible exact H | (rw [hy314];exact H) | exact H
           have Ny314 := Zb.mk hy314;clear hy314
           by_cases c27 : x7_1.length + y314.length < 17592186044416
           · rw [if_pos c27] at H
             have LMc27 := Zb.mk c27;clear c27
             obtain ⟨y317,hy317⟩ : ∃ y_ : List Int,y_ = (x7_1 ++ y314) := ⟨_,rfl⟩
             replace H : ((some (([(Ze l1 (ji24)).f1,wrap64 (((Ze l1 (ji24)).f1) + ((Ze l1 (ji24)).f3))] : List Int) : List Int)).bind fun y320 => (if x8_1.length + y320.length < 17592186044416 then (Zc.l0 k1 l0 l1 a2 y317 (x8_1 ++ y320) (wrap64 (x9_1 + 1))) else (none))) = some r := by first | (rw [hy317];with_reducible exact H) | (have H2_ := (Option.bind_some _ _).symm.trans H;rw [hy317];with_reducible exact H2_) | (have H2_ := (Option.bind_some _ _).symm.trans H;with_reducible exact H2_) | with_reducible exact H | (rw [hy317];exact H) | exact H
             have Ny317 := Zb.mk hy317;clear hy317
             obtain ⟨y320,hy320⟩ : ∃ y_ : List Int,y_ = (([(Ze l1 (ji24)).f1,wrap64 (((Ze l1 (ji24)).f1) + ((Ze l1 (ji24)).f3))] : List Int)) := ⟨_,rfl⟩
             replace H : (if x8_1.length + y320.length < 17592186044416 then (Zc.l0 k1 l0 l1 a2 y317 (x8_1 ++ y320) (wrap64 (x9_1 + 1))) else (none)) = some r := by first | (rw [hy320];with_reducible exact H) | (have H2_ := (Option.bind_some _ _).symm.trans H;rw [hy320];with_reducible exact H2_) | (have H2_ := (Option.bind_some _ _).symm.trans H;with_reducible exact H2_) | with_reducible exact H | (rw [hy320];exact H) | exact H
             have Ny320 := Zb.mk hy320;clear hy320
             by_cases c28 : x8_1.length + y320.length < 17592186044416
             · rw [if_pos c28] at H
               have LMc28 := Zb.mk c28;clear c28
               obtain ⟨y323,hy323⟩ : ∃ y_ : List Int,y_ = (x8_1 ++ y320) := ⟨_,rfl⟩
               replace H : (Zc.l0 k1 l0 l1 a2 y317 y323 (wrap64 (x9_1 + 1))) = some r := by first | (rw [hy323];with_reducible exact H) | (have H2_ := (Option.bind_some _ _).symm.trans H;rw [hy323];with_reducible exact H2_) | (have H2_ := (Option.bind_some _ _).symm.trans H;with_reducible exact H2_) | with_reducible exact H | (rw [hy323];exact H) | exact H
               have Ny323 := Zb.mk hy323;clear hy323;have H' := Zb.mk H;clear H
               try go_wp2_with (first | ((with_reducible refine ZJ (N := 10) rfl ?_);refine ZI ?hg (N := 10) ?hd (cs := #[.int .i64 0,.int .i64 0,.int .i64 0,.int .i64 0]) (t := 43) ?hr ?_;(case hd => rfl);(case hg => rfl);(case hr => first | (go_simp;done) | (go_simp;rfl));intro gb299 hg w29 hbox hb;have n0_ := Zb.mk (Kd.Xa (by (with_reducible repeat (first | apply Kd.Zj | apply Kd.Zi | apply Kd.Zm));exact HO_7.out) hb);have n1_ := Zb.mk (Kd.Xa (by (with_reducible repeat (first | apply Kd.Zj | apply Kd.Zi | apply Kd.Zm));exact HO_8.out) hb);have n2_ := Zb.mk (Zr (by repeat (first | (with_reducible first | exact HB.out | apply Zf | apply Za | apply Zd) | exact HB.out)) hb);have n3_ := Zb.mk (hbox);have n4_ := Zb.mk ((by rw [hg];exact (Zp (by repeat (first | (with_reducible first | exact HB.out | apply Zf | apply Za | apply Zd) | exact HB.out))) : w.heap.size ≤ gb299));have n5_ := Zb.mk ((by rw [hg];exact (Zp (by repeat (first | (with_reducible first | exact HB.out | apply Zf | apply Za | apply Zd) | exact HB.out))) : w.heap.size ≤ gb299));clear HO_7;clear HO_8;clear HB;have HO_7 := n0_;have HO_8 := n1_;have HB := n2_;have BK299 := n3_;have GW299 := n4_;have GE299 := n5_;clear n0_ n1_ n2_ n3_ n4_ n5_;clear hb hbox hg;have hcz30_0 : w29.cell? ⟨gb299,0,none⟩ = some (.int .i64 0) := (Zg BK299.out 0).trans rfl;have hcz30_1 : w29.cell? ⟨gb299,1,none⟩ = some (.int .i64 0) := (Zg BK299.out 1).trans rfl;have hcz30_2 : w29.cell? ⟨gb299,2,none⟩ = some (.int .i64 0) := (Zg BK299.out 2).trans rfl;have hcz30_3 : w29.cell? ⟨gb299,3,none⟩ = some (.int .i64 0) := (Zg BK299.out 3).trans rfl;have hfz30_0 := Zh BK299.out 0;have hfz30_1 := Zh BK299.out 1;have hfz30_2 := Zh BK299.out 2;have hfz30_3 := Zh BK299.out 3;have p313 : 0 ≤ ((ji24) : Int) := of_decide_eq_true (by first | (with_reducible assumption) | assumption);have q313 : (ji24) < (l1.length : Int) := of_decide_eq_true (by first | (with_reducible assumption) | assumption);obtain ⟨ad313,e313,hx313_0,hx313_1,hx313_2,hx313_3⟩ := Z4 HR1.out (ji24) p313 q313;cases e313;have hn313_0 : ad313.block ≠ gb299 := Nat.ne_of_lt (Nat.lt_of_lt_of_le (by have := World.block_lt_of_cell? _ _ hx313_0;first | rwa [Z2] at this | exact this) GW299.out);have hn313_1 : ad313.block ≠ gb299 := Nat.ne_of_lt (Nat.lt_of_lt_of_le (by have := World.block_lt_of_cell? _ _ hx313_0;first | rwa [Z2] at this | exact this) GW299.out);have hn313_2 : ad313.block ≠ gb299 := Nat.ne_of_lt (Nat.lt_of_lt_of_le (by have := World.block_lt_of_cell? _ _ hx313_0;first | rwa [Z2] at this | exact this) GW299.out);have hn313_3 : ad313.block ≠ gb299 := Nat.ne_of_lt (Nat.lt_of_lt_of_le (by have := World.block_lt_of_cell? _ _ hx313_0;first | rwa [Z2] at this | exact this) GW299.out);replace hx313_0 := (HB.out.cell (World.block_lt_of_cell? w _ hx313_0)).trans hx313_0;replace hx313_1 := (HB.out.cell (World.block_lt_of_cell? w _ hx313_1)).trans hx313_1;replace hx313_2 := (HB.out.cell (World.block_lt_of_cell? w _ hx313_2)).trans hx313_2;replace hx313_3 := (HB.out.cell (World.block_lt_of_cell? w _ hx313_3)).trans hx313_3;replace hx313_0 := (ZZ (p := ⟨gb299,0,none⟩) (by first | (rw [Z2];exact hn313_0) | (show (Addr.add _ _).block ≠ _;rw [Z2];exact hn313_0) | exact hn313_0) (.int .i64 0)).trans hx313_0;replace hx313_1 := (ZZ (p := ⟨gb299,0,none⟩) (by first | (rw [Z2];exact hn313_0) | (show (Addr.add _ _).block ≠ _;rw [Z2];exact hn313_0) | exact hn313_0) (.int .i64 0)).trans hx313_1;replace hx313_2 := (ZZ (p := ⟨gb299,0,none⟩) (by first | (rw [Z2];exact hn313_0) | (show (Addr.add _ _).block ≠ _;rw [Z2];exact hn313_0) | exact hn313_0) (.int .i64 0)).trans hx313_2;replace hx313_3 := (ZZ (p := ⟨gb299,0,none⟩) (by first | (rw [Z2];exact hn313_0) | (show (Addr.add _ _).block ≠ _;rw [Z2];exact hn313_0) | exact hn313_0) (.int .i64 0)).trans hx313_3;replace hx313_0 := (ZZ (p := ⟨gb299,1,none⟩) (by first | (rw [Z2];exact hn313_1) | (show (Addr.add _ _).block ≠ _;rw [Z2];exact hn313_1) | exact hn313_1) (.int .i64 0)).trans hx313_0;replace hx313_1 := (ZZ (p := ⟨gb299,1,none⟩) (by first | (rw [Z2];exact hn313_1) | (show (Addr.add _ _).block ≠ _;rw [Z2];exact hn313_1) | exact hn313_1) (.int .i64 0)).trans hx313_1;replace hx313_2 := (ZZ (p := ⟨gb299,1,none⟩) (by first | (rw [Z2];exact hn313_1) | (show (Addr.add _ _).block ≠ _;rw [Z2];exact hn313_1) | exact hn313_1) (.int .i64 0)).trans hx313_2;replace hx313_3 := (ZZ (p := ⟨gb299,1,none⟩) (by first | (rw [Z2];exact hn313_1) | (show (Addr.add _ _).block ≠ _;rw [Z2];exact hn313_1) | exact hn313_1) (.int .i64 0)).trans hx313_3;replace hx313_0 := (ZZ (p := ⟨gb299,2,none⟩) (by first | (rw [Z2];exact hn313_2) | (show (Addr.add _ _).block ≠ _;rw [Z2];exact hn313_2) | exact hn313_2) (.int .i64 0)).trans hx313_0;replace hx313_1 := (ZZ (p := ⟨gb299,2,none⟩) (by first | (rw [Z2];exact hn313_2) | (show (Addr.add _ _).block ≠ _;rw [Z2];exact hn313_2) | exact hn313_2) (.int .i64 0)).trans hx313_1;replace hx313_2 := (ZZ (p := ⟨gb299,2,none⟩) (by first | (rw [Z2];exact hn313_2) | (show (Addr.add _ _).block ≠ _;rw [Z2];exact hn313_2) | exact hn313_2) (.int .i64 0)).trans hx313_2;replace hx313_3 := (ZZ (p := ⟨gb299,2,none⟩) (by first | (rw [Z2];exact hn313_2) | (show (Addr.add _ _).block ≠ _;rw [Z2];exact hn313_2) | exact hn313_2) (.int .i64 0)).trans hx313_3;replace hx313_0 := (ZZ (p := ⟨gb299,3,none⟩) (by first | (rw [Z2];exact hn313_3) | (show (Addr.add _ _).block ≠ _;rw [Z2];exact hn313_3) | exact hn313_3) (.int .i64 0)).trans hx313_0;replace hx313_1 := (ZZ (p := ⟨gb299,3,none⟩) (by first | (rw [Z2];exact hn313_3) | (show (Addr.add _ _).block ≠ _;rw [Z2];exact hn313_3) | exact hn313_3) (.int .i64 0)).trans hx313_1;replace hx313_2 := (ZZ (p := ⟨gb299,3,none⟩) (by first | (rw [Z2];exact hn313_3) | (show (Addr.add _ _).block ≠ _;rw [Z2];exact hn313_3) | exact hn313_3) (.int .i64 0)).trans hx313_2;replace hx313_3 := (ZZ (p := ⟨gb299,3,none⟩) (by first | (rw [Z2];exact hn313_3) | (show (Addr.add _ _).block ≠ _;rw [Z2];exact hn313_3) | exact hn313_3) (.int .i64 0)).trans hx313_3;clear hn313_0;clear hn313_1;clear hn313_2;clear hn313_3;replace p313 := eq_true p313;replace q313 := eq_true q313;obtain ⟨Ao31,co31,eo31⟩ := Kd.ZS HO_7.out;subst eo31;obtain ⟨Ao32,co32,eo32⟩ := Kd.ZS HO_8.out;subst eo32))
               have n0_ : Zb (Kd.R (Kd.int .i64) 3 ((((((((w29.setCell ⟨gb299,0,none⟩ (.int .i64 0)).setCell ⟨gb299,1,none⟩ (.int .i64 0)).setCell ⟨gb299,2,none⟩ (.int .i64 0)).setCell ⟨gb299,3,none⟩ (.int .i64 0)).setCell ⟨gb299,0,none⟩ (.int .i64 ((Ze l1 (ji24)).f0))).setCell ⟨gb299,1,none⟩ (.int .i64 ((Ze l1 (ji24)).f1))).setCell ⟨gb299,2,none⟩ (.int .i64 ((Ze l1 (ji24)).f2))).setCell ⟨gb299,3,none⟩ (.int .i64 ((Ze l1 (ji24)).f3))) w.heap.size (fun k_ => some k_ ≠ (.slice Ao32 x8_1.length co32 : Value).ownBlock) (.slice Ao31 x7_1.length co31) x7_1) := ⟨by (with_reducible repeat (first | apply Kd.Zj | apply Kd.Zi | apply Kd.Zm));exact Kd.ZE (Kd.R_far (p := ⟨gb299,3,none⟩) (Kd.R_far (p := ⟨gb299,2,none⟩) (Kd.R_far (p := ⟨gb299,1,none⟩) (Kd.R_far (p := ⟨gb299,0,none⟩) (Kd.R_far (p := ⟨gb299,3,none⟩) (Kd.R_far (p := ⟨gb299,2,none⟩) (Kd.R_far (p := ⟨gb299,1,none⟩) (Kd.R_far (p := ⟨gb299,0,none⟩) (Kd.QL HO_7.out BK299.out (by decide)) (fun _ hk => hk.2) (.int .i64 0)) (fun _ hk => hk.2) (.int .i64 0)) (fun _ hk => hk.2) (.int .i64 0)) (fun _ hk => hk.2) (.int .i64 0)) (fun _ hk => hk.2) (.int .i64 ((Ze l1 (ji24)).f0))) (fun _ hk => hk.2) (.int .i64 ((Ze l1 (ji24)).f1))) (fun _ hk => hk.2) (.int .i64 ((Ze l1 (ji24)).f2))) (fun _ hk => hk.2) (.int .i64 ((Ze l1 (ji24)).f3))) (fun _ hk => hk.1)⟩
               have n1_ : Zb (Kd.R (Kd.int .i64) 3 ((((((((w29.setCell ⟨gb299,0,none⟩ (.int .i64 0)).setCell ⟨gb299,1,none⟩ (.int .i64 0)).setCell ⟨gb299,2,none⟩ (.int .i64 0)).setCell ⟨gb299,3,none⟩ (.int .i64 0)).setCell ⟨gb299,0,none⟩ (.int .i64 ((Ze l1 (ji24)).f0))).setCell ⟨gb299,1,none⟩ (.int .i64 ((Ze l1 (ji24)).f1))).setCell ⟨gb299,2,none⟩ (.int .i64 ((Ze l1 (ji24)).f2))).setCell ⟨gb299,3,none⟩ (.int .i64 ((Ze l1 (ji24)).f3))) w.heap.size (fun k_ => some k_ ≠ (.slice Ao31 x7_1.length co31 : Value).ownBlock) (.slice Ao32 x8_1.length co32) x8_1) := ⟨by (with_reducible repeat (first | apply Kd.Zj | apply Kd.Zi | apply Kd.Zm));exact Kd.ZE (Kd.R_far (p := ⟨gb299,3,none⟩) (Kd.R_far (p := ⟨gb299,2,none⟩) (Kd.R_far (p := ⟨gb299,1,none⟩) (Kd.R_far (p := ⟨gb299,0,none⟩) (Kd.R_far (p := ⟨gb299,3,none⟩) (Kd.R_far (p := ⟨gb299,2,none⟩) (Kd.R_far (p := ⟨gb299,1,none⟩) (Kd.R_far (p := ⟨gb299,0,none⟩) (Kd.QL HO_8.out BK299.out (by decide)) (fun _ hk => hk.2) (.int .i64 0)) (fun _ hk => hk.2) (.int .i64 0)) (fun _ hk => hk.2) (.int .i64 0)) (fun _ hk => hk.2) (.int .i64 0)) (fun _ hk => hk.2) (.int .i64 ((Ze l1 (ji24)).f0))) (fun _ hk => hk.2) (.int .i64 ((Ze l1 (ji24)).f1))) (fun _ hk => hk.2) (.int .i64 ((Ze l1 (ji24)).f2))) (fun _ hk => hk.2) (.int .i64 ((Ze l1 (ji24)).f3))) (fun _ hk => hk.1)⟩
               have n2_ : Zb (((((((((w29.setCell ⟨gb299,0,none⟩ (.int .i64 0)).setCell ⟨gb299,1,none⟩ (.int .i64 0)).setCell ⟨gb299,2,none⟩ (.int .i64 0)).setCell ⟨gb299,3,none⟩ (.int .i64 0)).setCell ⟨gb299,0,none⟩ (.int .i64 ((Ze l1 (ji24)).f0))).setCell ⟨gb299,1,none⟩ (.int .i64 ((Ze l1 (ji24)).f1))).setCell ⟨gb299,2,none⟩ (.int .i64 ((Ze l1 (ji24)).f2))).setCell ⟨gb299,3,none⟩ (.int .i64 ((Ze l1 (ji24)).f3))).heap[gb299]? = some (.cells #[.int .i64 ((Ze l1 (ji24)).f0),.int .i64 ((Ze l1 (ji24)).f1),.int .i64 ((Ze l1 (ji24)).f2),.int .i64 ((Ze l1 (ji24)).f3)] 43 (0,0))) := ⟨by (with_reducible repeat (first | refine Zl ?_ _ | refine Zn ?_ | refine Zk ?_ _));refine Z8 (cs := #[.int .i64 ((Ze l1 (ji24)).f0),.int .i64 ((Ze l1 (ji24)).f1),.int .i64 ((Ze l1 (ji24)).f2),.int .i64 0]) ?_ 3 _ rfl;(with_reducible repeat (first | refine Zl ?_ _ | refine Zn ?_ | refine Zk ?_ _));refine Z8 (cs := #[.int .i64 ((Ze l1 (ji24)).f0),.int .i64 ((Ze l1 (ji24)).f1),.int .i64 0,.int .i64 0]) ?_ 2 _ rfl;(with_reducible repeat (first | refine Zl ?_ _ | refine Zn ?_ | refine Zk ?_ _));refine Z8 (cs := #[.int .i64 ((Ze l1 (ji24)).f0),.int .i64 0,.int .i64 0,.int .i64 0]) ?_ 1 _ rfl;(with_reducible repeat (first | refine Zl ?_ _ | refine Zn ?_ | refine Zk ?_ _));refine Z8 (cs := #[.int .i64 0,.int .i64 0,.int .i64 0,.int .i64 0]) ?_ 0 _ rfl;(with_reducible repeat (first | refine Zl ?_ _ | refine Zn ?_ | refine Zk ?_ _));refine Z8 (cs := #[.int .i64 0,.int .i64 0,.int .i64 0,.int .i64 0]) ?_ 3 _ rfl;(with_reducible repeat (first | refine Zl ?_ _ | refine Zn ?_ | refine Zk ?_ _));refine Z8 (cs := #[.int .i64 0,.int .i64 0,.int .i64 0,.int .i64 0]) ?_ 2 _ rfl;(with_reducible repeat (first | refine Zl ?_ _ | refine Zn ?_ | refine Zk ?_ _));refine Z8 (cs := #[.int .i64 0,.int .i64 0,.int .i64 0,.int .i64 0]) ?_ 1 _ rfl;(with_reducible repeat (first | refine Zl ?_ _ | refine Zn ?_ | refine Zk ?_ _));refine Z8 (cs := #[.int .i64 0,.int .i64 0,.int .i64 0,.int .i64 0]) ?_ 0 _ rfl;(with_reducible repeat (first | refine Zl ?_ _ | refine Zn ?_ | refine Zk ?_ _));exact BK299.out⟩
               have n3_ : Zb (Below w.heap.size w ((((((((w29.setCell ⟨gb299,0,none⟩ (.int .i64 0)).setCell ⟨gb299,1,none⟩ (.int .i64 0)).setCell ⟨gb299,2,none⟩ (.int .i64 0)).setCell ⟨gb299,3,none⟩ (.int .i64 0)).setCell ⟨gb299,0,none⟩ (.int .i64 ((Ze l1 (ji24)).f0))).setCell ⟨gb299,1,none⟩ (.int .i64 ((Ze l1 (ji24)).f1))).setCell ⟨gb299,2,none⟩ (.int .i64 ((Ze l1 (ji24)).f2))).setCell ⟨gb299,3,none⟩ (.int .i64 ((Ze l1 (ji24)).f3)))) := ⟨by repeat (first | (with_reducible first | exact HB.out | apply Zf | apply Za | apply Zd | refine Zo ?_ GE299.out) | exact HB.out)⟩
               (try clear HO_7)
               (try clear HO_8)
               (try clear BK299)
               (try clear HB)
               generalize ((((((((w29.setCell ⟨gb299,0,none⟩ (.int .i64 0)).setCell ⟨gb299,1,none⟩ (.int .i64 0)).setCell ⟨gb299,2,none⟩ (.int .i64 0)).setCell ⟨gb299,3,none⟩ (.int .i64 0)).setCell ⟨gb299,0,none⟩ (.int .i64 ((Ze l1 (ji24)).f0))).setCell ⟨gb299,1,none⟩ (.int .i64 ((Ze l1 (ji24)).f1))).setCell ⟨gb299,2,none⟩ (.int .i64 ((Ze l1 (ji24)).f2))).setCell ⟨gb299,3,none⟩ (.int .i64 ((Ze l1 (ji24)).f3))) = w33 at n0_ n1_ n2_ n3_ ⊢;have HO_7 := n0_;have HO_8 := n1_;have BK299 := n2_;have HB := n3_;clear n0_ n1_ n2_ n3_;have n0_ := Zb.mk (Kd.Zm HO_7.out);have n1_ := Zb.mk (Kd.Zm HO_8.out);have n2_ := Zb.mk (Zn BK299.out);have n3_ := Zb.mk (Zd HB.out);clear HO_7;clear HO_8;clear BK299;clear HB;have HO_7 := n0_;have HO_8 := n1_;have BK299 := n2_;have HB := n3_;clear n0_ n1_ n2_ n3_;refine Qn (n := 22) (S := fun w' => w'.cell? ⟨gb299,0,none⟩ = some (.int .i64 ((Ze l1 (ji24)).f0)) ∧ w'.cell? ⟨gb299,1,none⟩ = some (.int .i64 ((Ze l1 (ji24)).f1)) ∧ w'.cell? ⟨gb299,2,none⟩ = some (.int .i64 ((Ze l1 (ji24)).f2)) ∧ w'.cell? ⟨gb299,3,none⟩ = some (.int .i64 ((Ze l1 (ji24)).f3))) (ds := []) #[Z,Z,Z,Z,Z,Z,Z,Z,Z,Z,Z,Z,Z,Z,Z,Z,Z,Z,Z,Z,Z,Z] (by kernel_rfl) rfl rfl ⟨(Zg BK299.out 0).trans rfl,(Zg BK299.out 1).trans rfl,(Zg BK299.out 2).trans rfl,(Zg BK299.out 3).trans rfl⟩ (fun hHeld => ?_);refine XC Zc.tab9 Zc.bits9 (fun HT_ HW_ => ?_);generalize w33.drew = w34 at HO_7 HO_8 BK299 HB hHeld ⊢;refine pure_ (i := 0) (N := some 46) (v := ?_) (a' := ?_) #[U,Z,Z,Z,Z,Z,Z,Z,Z,Z,Z,Z,Z,Z,Z,Z,Z,Z,Z,Z,Z,Z] rfl rfl (Zs HT_.out (by kernel_rfl)) (fun _ _ _ h => h) (Or.inl ⟨by rfl,?_⟩) ?_ ?_;rotate_left
               · intro w'
                 go_simp;with_reducible rfl
               rotate_left
               · simp only [Act.put,V9,VA,VB,i64_w,i32_w]
                 rfl
               refine pure_ (i := 1) (N := some 47) (v := ?_) (a' := ?_) #[U,U,Z,Z,Z,Z,Z,Z,Z,Z,Z,Z,Z,Z,Z,Z,Z,Z,Z,Z,Z,Z] rfl rfl (Zs HT_.out (by kernel_rfl)) (fun _ _ _ h => h) (Or.inl ⟨by rfl,?_⟩) ?_ ?_;rotate_left
               · intro w'
                 go_simp;with_reducible rfl
               rotate_left
               · simp only [Act.put,V9,VA,VB,i64_w,i32_w]
                 rfl
               refine pure_ (i := 3) (N := some 49) (v := ?_) (a' := ?_) #[U,U,Z,U,Z,Z,Z,Z,Z,Z,Z,Z,Z,Z,Z,Z,Z,Z,Z,Z,Z,Z] rfl rfl (Zs HT_.out (by kernel_rfl)) (fun _ _ _ h => h) (Or.inl ⟨by rfl,?_⟩) ?_ ?_;rotate_left
               · intro w'
                 go_simp;with_reducible rfl
               rotate_left
               · simp only [Act.put,V9,VA,VB,i64_w,i32_w]
                 rfl
               refine pure_ (i := 5) (N := some 51) (v := ?_) (a' := ?_) #[U,U,Z,U,Z,U,Z,Z,Z,Z,Z,Z,Z,Z,Z,Z,Z,Z,Z,Z,Z,Z] rfl rfl (Zs HT_.out (by kernel_rfl)) (fun _ _ _ h => h) (Or.inl ⟨by rfl,?_⟩) ?_ ?_;rotate_left
               · intro w'
                 go_simp;with_reducible rfl
               rotate_left
               · simp only [Act.put,V9,VA,VB,i64_w,i32_w]
                 rfl
               refine pure_ (i := 10) (N := some 56) (v := ?_) (a' := ?_) #[U,U,Z,U,Z,U,Z,Z,Z,Z,U,Z,Z,Z,Z,Z,Z,Z,Z,Z,Z,Z] rfl rfl (Zs HT_.out (by kernel_rfl)) (fun _ _ _ h => h) (Or.inl ⟨by rfl,?_⟩) ?_ ?_;rotate_left
               · intro w'
                 go_simp;with_reducible rfl
               rotate_left
               · simp only [Act.put,V9,VA,VB,i64_w,i32_w]
                 rfl
               refine pure_ (i := 11) (N := some 57) (v := ?_) (a' := ?_) #[U,U,Z,U,Z,U,Z,Z,Z,Z,U,U,Z,Z,Z,Z,Z,Z,Z,Z,Z,Z] rfl rfl (Zs HT_.out (by kernel_rfl)) (fun _ _ _ h => h) (Or.inl ⟨by rfl,?_⟩) ?_ ?_;rotate_left
               · intro w'
                 go_simp;with_reducible rfl
               rotate_left
               · simp only [Act.put,V9,VA,VB,i64_w,i32_w]
                 rfl
               refine pure_ (i := 13) (N := some 59) (v := ?_) (a' := ?_) #[U,U,Z,U,Z,U,Z,Z,Z,Z,U,U,Z,U,Z,Z,Z,Z,Z,Z,Z,Z] rfl rfl (Zs HT_.out (by kernel_rfl)) (fun _ _ _ h => h) (Or.inl ⟨by rfl,?_⟩) ?_ ?_;rotate_left
               · intro w'
                 go_simp;with_reducible rfl
               rotate_left
               · simp only [Act.put,V9,VA,VB,i64_w,i32_w]
                 rfl
               refine pure_ (i := 15) (N := some 61) (v := ?_) (a' := ?_) #[U,U,Z,U,Z,U,Z,Z,Z,Z,U,U,Z,U,Z,U,Z,Z,Z,Z,Z,Z] rfl rfl (Zs HT_.out (by kernel_rfl)) (fun _ _ _ h => h) (Or.inl ⟨by rfl,?_⟩) ?_ ?_;rotate_left
               · intro w'
                 go_simp;with_reducible rfl
               rotate_left
               · simp only [Act.put,V9,VA,VB,i64_w,i32_w]
                 rfl
               refine take_ (i := 2) (N := some 48) (v := ?_) (a' := ?_) #[U,U,U,U,Z,U,Z,Z,Z,Z,U,U,Z,U,Z,U,Z,Z,Z,Z,Z,Z] rfl rfl (ZQ HT_.out HW_.out (by kernel_rfl)) (fun _ _ _ h => h) (Or.inl ⟨by rfl,?_⟩) hHeld ?_ ?_;rotate_left
               · rintro w' ⟨s0,s1,s2,s3⟩
                 go_simp;with_reducible rfl
               rotate_left
               · simp only [Act.put,V9,VA,VB,i64_w,i32_w]
                 rfl
               refine take_ (i := 4) (N := some 50) (v := ?_) (a' := ?_) #[U,U,U,U,U,U,Z,Z,Z,Z,U,U,Z,U,Z,U,Z,Z,Z,Z,Z,Z] rfl rfl (ZQ HT_.out HW_.out (by kernel_rfl)) (fun _ _ _ h => h) (Or.inl ⟨by rfl,?_⟩) hHeld ?_ ?_;rotate_left
               · rintro w' ⟨s0,s1,s2,s3⟩
                 go_simp;with_reducible rfl
               rotate_left
               · simp only [Act.put,V9,VA,VB,i64_w,i32_w]
                 rfl
               refine take_ (i := 6) (N := some 52) (v := ?_) (a' := ?_) #[U,U,U,U,U,U,U,Z,Z,Z,U,U,Z,U,Z,U,Z,Z,Z,Z,Z,Z] rfl rfl (ZQ HT_.out HW_.out (by kernel_rfl)) (fun _ _ _ h => h) (Or.inl ⟨by rfl,?_⟩) hHeld ?_ ?_;rotate_left
               · rintro w' ⟨s0,s1,s2,s3⟩
                 go_simp;with_reducible rfl
               rotate_left
               · simp only [Act.put,V9,VA,VB,i64_w,i32_w]
                 rfl
               refine pure_ (i := 7) (N := some 53) (v := ?_) (a' := ?_) #[U,U,U,U,U,U,U,U,Z,Z,U,U,Z,U,Z,U,Z,Z,Z,Z,Z,Z] rfl rfl (Zs HT_.out (by kernel_rfl)) (fun _ _ _ h => h) (Or.inl ⟨by rfl,?_⟩) ?_ ?_;rotate_left
               · intro w'
                 go_simp;with_reducible rfl
               rotate_left
               · simp only [Act.put,V9,VA,VB,i64_w,i32_w]
                 rfl
               refine take_ (i := 12) (N := some 58) (v := ?_) (a' := ?_) #[U,U,U,U,U,U,U,U,Z,Z,U,U,U,U,Z,U,Z,Z,Z,Z,Z,Z] rfl rfl (ZQ HT_.out HW_.out (by kernel_rfl)) (fun _ _ _ h => h) (Or.inl ⟨by rfl,?_⟩) hHeld ?_ ?_;rotate_left
               · rintro w' ⟨s0,s1,s2,s3⟩
                 go_simp;with_reducible rfl
               rotate_left
               · simp only [Act.put,V9,VA,VB,i64_w,i32_w]
                 rfl
               refine take_ (i := 14) (N := some 60) (v := ?_) (a' := ?_) #[U,U,U,U,U,U,U,U,Z,Z,U,U,U,U,U,U,Z,Z,Z,Z,Z,Z] rfl rfl (ZQ HT_.out HW_.out (by kernel_rfl)) (fun _ _ _ h => h) (Or.inl ⟨by rfl,?_⟩) hHeld ?_ ?_;rotate_left
               · rintro w' ⟨s0,s1,s2,s3⟩
                 go_simp;with_reducible rfl
               rotate_left
               · simp only [Act.put,V9,VA,VB,i64_w,i32_w]
                 rfl
               refine take_ (i := 16) (N := some 62) (v := ?_) (a' := ?_) #[U,U,U,U,U,U,U,U,Z,Z,U,U,U,U,U,U,U,Z,Z,Z,Z,Z] rfl rfl (ZQ HT_.out HW_.out (by kernel_rfl)) (fun _ _ _ h => h) (Or.inl ⟨by rfl,?_⟩) hHeld ?_ ?_;rotate_left
               · rintro w' ⟨s0,s1,s2,s3⟩
                 go_simp;with_reducible rfl
               rotate_left
               · simp only [Act.put,V9,VA,VB,i64_w,i32_w]
                 rfl
               refine pure_ (i := 17) (N := some 63) (v := ?_) (a' := ?_) #[U,U,U,U,U,U,U,U,Z,Z,U,U,U,U,U,U,U,U,Z,Z,Z,Z] rfl rfl (Zs HT_.out (by kernel_rfl)) (fun _ _ _ h => h) (Or.inl ⟨by rfl,?_⟩) ?_ ?_;rotate_left
               · intro w'
                 go_simp;with_reducible rfl
               rotate_left
               · simp only [Act.put,V9,VA,VB,i64_w,i32_w]
                 rfl
               refine join_ (σ := Value × Value × Value) 3 #[U,U,U,U,U,U,U,U,U,U,U,U,U,U,U,U,U,U,U,Z,Z,Z] (fun s_ => [(54,s_.1),(55,s_.2.1),(64,s_.2.2)]) (fun s_ w' => (w'.cell? ⟨gb299,0,none⟩ = some (.int .i64 ((Ze l1 (ji24)).f0)) ∧ w'.cell? ⟨gb299,1,none⟩ = some (.int .i64 ((Ze l1 (ji24)).f1)) ∧ w'.cell? ⟨gb299,2,none⟩ = some (.int .i64 ((Ze l1 (ji24)).f2)) ∧ w'.cell? ⟨gb299,3,none⟩ = some (.int .i64 ((Ze l1 (ji24)).f3))) ∧ (Kd.R (Kd.int .i64) 3 w' w.heap.size (fun k_ => some k_ ≠ (s_.2.1 : Value).ownBlock ∧ some k_ ≠ (s_.2.2 : Value).ownBlock ∧ some k_ ≠ (.slice Ao32 x8_1.length co32 : Value).ownBlock) s_.1 y314) ∧ (Kd.R (Kd.int .i64) 3 w' w.heap.size (fun k_ => some k_ ≠ (s_.1 : Value).ownBlock ∧ some k_ ≠ (s_.2.2 : Value).ownBlock ∧ some k_ ≠ (.slice Ao32 x8_1.length co32 : Value).ownBlock) s_.2.1 y317) ∧ (Kd.R (Kd.int .i64) 3 w' w.heap.size (fun k_ => some k_ ≠ (s_.1 : Value).ownBlock ∧ some k_ ≠ (s_.2.1 : Value).ownBlock ∧ some k_ ≠ (.slice Ao32 x8_1.length co32 : Value).ownBlock) s_.2.2 y320) ∧ (Kd.R (Kd.int .i64) 3 w' w.heap.size (fun k_ => some k_ ≠ (s_.1 : Value).ownBlock ∧ some k_ ≠ (s_.2.1 : Value).ownBlock ∧ some k_ ≠ (s_.2.2 : Value).ownBlock) (.slice Ao32 x8_1.length co32) x8_1) ∧ (w'.heap[gb299]? = some (.cells #[.int .i64 ((Ze l1 (ji24)).f0),.int .i64 ((Ze l1 (ji24)).f1),.int .i64 ((Ze l1 (ji24)).f2),.int .i64 ((Ze l1 (ji24)).f3)] 43 (0,0))) ∧ (Below w.heap.size w w')) ?_ ?_;rotate_left
               · intro hCont
                 refine two_ (i := 8) (j := 18) (Ni := some 54) (Nj := some 64) #[U,U,U,U,U,U,U,U,U,Z,U,U,U,U,U,U,U,U,Z,Z,Z,Z] #[U,U,U,U,U,U,U,U,Z,Z,U,U,U,U,U,U,U,U,U,Z,Z,Z] rfl rfl rfl rfl (JC HT_.out (by kernel_rfl)) (by decide) (by decide) (fun K hK => ?_) (fun K hK => ?_)
                 · skip
                   refine Kd.XG (Kd.int .i64) _ 3 ?hg (N := 54) ?hd (xs := ([(Ze l1 (ji24)).f0,wrap64 (((Ze l1 (ji24)).f0) + ((Ze l1 (ji24)).f2))] : List Int)) (inner := [.int .i64 ((Ze l1 (ji24)).f0),.int .i64 (wrap64 (((Ze l1 (ji24)).f0) + ((Ze l1 (ji24)).f2)))]) (ok := fun _ => True) (okp := fun _ => True) ?hr ?hp (fun _ hk => hk) trivial (Below.refl _ _) (Nat.le_refl _) (by simp) ?_;(case hd => rfl);(case hg => rfl);(case hr => first | (go_simp;done) | (go_simp;rfl));(case hp => exact (Reps.one (show Kd.M (Kd.int .i64) _ _ _ ((Ze l1 (ji24)).f0) [.int .i64 ((Ze l1 (ji24)).f0)] from rfl) (Reps.one (show Kd.M (Kd.int .i64) _ _ _ (wrap64 (((Ze l1 (ji24)).f0) + ((Ze l1 (ji24)).f2))) [.int .i64 (wrap64 (((Ze l1 (ji24)).f0) + ((Ze l1 (ji24)).f2)))] from rfl) (Reps.none _ _))));intro v315 w35 ho36 hb hg_ hnew_;clear hg_ hnew_
                   (first | rw [← Ny314.out] at ho36 | (simp only [Int.reduceToNat] at ho36;rw [← Ny314.out] at ho36))
                   have n0_ := Zb.mk (Kd.ZY (by (with_reducible repeat (first | apply Kd.Zj | apply Kd.Zi | apply Kd.Zm));exact HO_7.out) (Kd.Xn ho36) hb);have n1_ := Zb.mk (Kd.ZY (by (with_reducible repeat (first | apply Kd.Zj | apply Kd.Zi | apply Kd.Zm));exact HO_8.out) (Kd.Xn ho36) hb);have n2_ := Zb.mk (Kd.Xd (Kd.Xp (Kd.Xp ho36 (Kd.R_lt (by (with_reducible repeat (first | apply Kd.Zj | apply Kd.Zi | apply Kd.Zm));exact HO_7.out))) (Kd.R_lt (by (with_reducible repeat (first | apply Kd.Zj | apply Kd.Zi | apply Kd.Zm));exact HO_8.out))) (Zp (by repeat (first | (with_reducible first | exact HB.out | apply Zf | apply Za | apply Zd | refine Zo ?_ GE299.out) | exact HB.out))));have n3_ := Zb.mk (ZG (g := gb299) (o := .cells #[.int .i64 ((Ze l1 (ji24)).f0),.int .i64 ((Ze l1 (ji24)).f1),.int .i64 ((Ze l1 (ji24)).f2),.int .i64 ((Ze l1 (ji24)).f3)] 43 (0,0)) (by (with_reducible repeat (first | refine Zl ?_ _ | refine Zn ?_ | refine Zk ?_ _));exact BK299.out) hb);have n4_ := Zb.mk (Zr (by repeat (first | (with_reducible first | exact HB.out | apply Zf | apply Za | apply Zd | refine Zo ?_ GE299.out) | exact HB.out)) hb);clear HO_7;clear HO_8;clear BK299;clear HB;have HO_7 := n0_;have HO_8 := n1_;have HO316 := n2_;have BK299 := n3_;have HB := n4_;clear n0_ n1_ n2_ n3_ n4_;clear hb ho36;obtain ⟨Ao38,co38,eo38⟩ := Kd.ZS HO316.out
                   (first | subst eo38 | (injection eo38 with f1_ f2_ f3_;have f4_ := f1_.symm;have f5_ := f3_.symm;clear f1_ f2_ f3_;subst f4_;subst f5_))
                   refine hK.out _ _ ⟨(Zg BK299.out 0).trans rfl,(Zg BK299.out 1).trans rfl,(Zg BK299.out 2).trans rfl,(Zg BK299.out 3).trans rfl⟩ (fun hHeld => ?_);clear hK K;refine norm_ (a' := ?_) ?_ ?_;rotate_left
                   · show Act.put _ (some 54) _ = _
                     simp only [Act.put,V9,VA,VB,i64_w,i32_w];rfl
                   refine two_ (i := 9) (j := 18) (Ni := some 55) (Nj := some 64) #[U,U,U,U,U,U,U,U,U,U,U,U,U,U,U,U,U,U,Z,Z,Z,Z] #[U,U,U,U,U,U,U,U,U,Z,U,U,U,U,U,U,U,U,U,Z,Z,Z] rfl rfl rfl rfl (JC HT_.out (by kernel_rfl)) (by decide) (by decide) (fun K hK => ?_) (fun K hK => ?_)
                   · skip
                     refine Kd.Xl (Kd.int .i64) (w0 := w) w.heap.size (by rfl) (.tmp 46) (.tmp 54) 32 3 (.int .i64 0) 8 rfl Try.underlying32 info3 rfl (by decide) (by omega) (.slice Ao31 x7_1.length co31) x7_1 y314 _ _ _ (fun k_ => some k_ ≠ (.slice Ao32 x8_1.length co32 : Value).ownBlock ∧ some k_ ≠ (.slice Ao38 y314.length co38 : Value).ownBlock) (fun _ => False) rfl rfl ?aO ?aR (fun _ _ h => h) (fun _ h => h.elim) ?aF ?aB ?aS ?aL ?_
                     (case aR => repeat (first | exact (Kd.Z3 HO316.out).2.2 | (with_reducible refine Kd.Z9 ?_ _) | (with_reducible refine Kd.ZA ?_ _) | (with_reducible refine Kd.ZO ?_)))
                     (case aB => exact (by repeat (first | (with_reducible first | exact HB.out | apply Zf | apply Za | apply Zd | refine Zo ?_ GE299.out) | exact HB.out)))
                     (case aF => exact (fun k_ hk => ⟨Kd.fresh' (Kd.R_lt (by (with_reducible repeat (first | apply Kd.Zj | apply Kd.Zi | apply Kd.Zm));exact HO_8.out)) k_ hk,Kd.fresh' (Kd.R_lt (by (with_reducible repeat (first | apply Kd.Zj | apply Kd.Zi | apply Kd.Zm));exact HO316.out)) k_ hk⟩))
                     (case aO => exact (by (with_reducible repeat (first | apply Kd.Zj | apply Kd.Zi | apply Kd.Zm));exact HO_7.out))
                     (case aS => exact (Zp (by repeat (first | (with_reducible first | exact HB.out | apply Zf | apply Za | apply Zd | refine Zo ?_ GE299.out) | exact HB.out))))
                     (case aL => have := LMc27.out;omega)
                     intro v318 w37 ho hb hg hat
                     rw [← Ny317.out] at ho;have n0_ := Zb.mk (Kd.Xt (ok := (fun k_ => some k_ ≠ (.slice Ao38 y314.length co38 : Value).ownBlock)) (by (with_reducible repeat (first | apply Kd.Zj | apply Kd.Zi | apply Kd.Zm));exact Kd.ZE HO_8.out (fun _ hk => ⟨hk.2,hk.1⟩)) hg hat);have n1_ := Zb.mk (XY (g := gb299) (o := .cells #[.int .i64 ((Ze l1 (ji24)).f0),.int .i64 ((Ze l1 (ji24)).f1),.int .i64 ((Ze l1 (ji24)).f2),.int .i64 ((Ze l1 (ji24)).f3)] 43 (0,0)) (by (with_reducible repeat (first | refine Zl ?_ _ | refine Zn ?_ | refine Zk ?_ _));exact BK299.out) hg (Kd.R_ne HO_7.out BK299.out (by decide)));have n2_ := Zb.mk (Kd.Xt (ok := (fun k_ => some k_ ≠ (.slice Ao32 x8_1.length co32 : Value).ownBlock)) (by (with_reducible repeat (first | apply Kd.Zj | apply Kd.Zi | apply Kd.Zm));exact Kd.ZE HO316.out (fun _ hk => ⟨hk.2,hk.1.2⟩)) hg hat);have n3_ := Zb.mk (hb);have n4_ := Zb.mk (ho);clear HO_8;clear BK299;clear HO316;clear HB;clear HO_7;have HO_8 := n0_;have BK299 := n1_;have HO316 := n2_;have HB := n3_;have HO319 := n4_;clear n0_ n1_ n2_ n3_ n4_
                     clear ho hb hg hat
                     refine hK.out _ _ ⟨(Zg BK299.out 0).trans rfl,(Zg BK299.out 1).trans rfl,(Zg BK299.out 2).trans rfl,(Zg BK299.out 3).trans rfl⟩ (fun hHeld => ?_);clear hK K;refine norm_ (a' := ?_) ?_ ?_;rotate_left
                     · show Act.put _ (some 55) _ = _
                       simp only [Act.put,V9,VA,VB,i64_w,i32_w];rfl
                     refine one_ (i := 18) (N := some 64) #[U,U,U,U,U,U,U,U,U,U,U,U,U,U,U,U,U,U,U,Z,Z,Z] rfl rfl (XB HT_.out (by kernel_rfl)) (by decide) (fun K hK => ?_);refine Kd.XG (Kd.int .i64) _ 3 ?hg (N := 64) ?hd (xs := ([(Ze l1 (ji24)).f1,wrap64 (((Ze l1 (ji24)).f1) + ((Ze l1 (ji24)).f3))] : List Int)) (inner := [.int .i64 ((Ze l1 (ji24)).f1),.int .i64 (wrap64 (((Ze l1 (ji24)).f1) + ((Ze l1 (ji24)).f3)))]) (ok := fun _ => True) (okp := fun _ => True) ?hr ?hp (fun _ hk => hk) trivial (Below.refl _ _) (Nat.le_refl _) (by simp) ?_;(case hd => rfl);(case hg => rfl);(case hr => first | (go_simp;done) | (go_simp;rfl));(case hp => exact (Reps.one (show Kd.M (Kd.int .i64) _ _ _ ((Ze l1 (ji24)).f1) [.int .i64 ((Ze l1 (ji24)).f1)] from rfl) (Reps.one (show Kd.M (Kd.int .i64) _ _ _ (wrap64 (((Ze l1 (ji24)).f1) + ((Ze l1 (ji24)).f3))) [.int .i64 (wrap64 (((Ze l1 (ji24)).f1) + ((Ze l1 (ji24)).f3)))] from rfl) (Reps.none _ _))));intro v321 w39 ho40 hb hg_ hnew_;clear hg_ hnew_
                     (first | rw [← Ny320.out] at ho40 | (simp only [Int.reduceToNat] at ho40;rw [← Ny320.out] at ho40))
                     have n0_ := Zb.mk (Kd.ZY (by (with_reducible repeat (first | apply Kd.Zj | apply Kd.Zi | apply Kd.Zm));exact HO_8.out) (Kd.Xn ho40) hb);have n1_ := Zb.mk (Kd.ZY (by (with_reducible repeat (first | apply Kd.Zj | apply Kd.Zi | apply Kd.Zm));exact HO316.out) (Kd.Xn ho40) hb);have n2_ := Zb.mk (Kd.ZY (by (with_reducible repeat (first | apply Kd.Zj | apply Kd.Zi | apply Kd.Zm));exact HO319.out) (Kd.Xn ho40) hb);have n3_ := Zb.mk (Kd.Xd (Kd.Xp (Kd.Xp (Kd.Xp ho40 (Kd.R_lt (by (with_reducible repeat (first | apply Kd.Zj | apply Kd.Zi | apply Kd.Zm));exact HO_8.out))) (Kd.R_lt (by (with_reducible repeat (first | apply Kd.Zj | apply Kd.Zi | apply Kd.Zm));exact HO316.out))) (Kd.R_lt (by (with_reducible repeat (first | apply Kd.Zj | apply Kd.Zi | apply Kd.Zm));exact HO319.out))) (Zp (by repeat (first | (with_reducible first | exact HB.out | apply Zf | apply Za | apply Zd | refine Zo ?_ GE299.out) | exact HB.out))));have n4_ := Zb.mk (ZG (g := gb299) (o := .cells #[.int .i64 ((Ze l1 (ji24)).f0),.int .i64 ((Ze l1 (ji24)).f1),.int .i64 ((Ze l1 (ji24)).f2),.int .i64 ((Ze l1 (ji24)).f3)] 43 (0,0)) (by (with_reducible repeat (first | refine Zl ?_ _ | refine Zn ?_ | refine Zk ?_ _));exact BK299.out) hb);have n5_ := Zb.mk (Zr (by repeat (first | (with_reducible first | exact HB.out | apply Zf | apply Za | apply Zd | refine Zo ?_ GE299.out) | exact HB.out)) hb);clear HO_8;clear HO316;clear HO319;clear BK299;clear HB;have HO_8 := n0_;have HO316 := n1_;have HO319 := n2_;have HO322 := n3_;have BK299 := n4_;have HB := n5_;clear n0_ n1_ n2_ n3_ n4_ n5_;clear hb ho40;refine hK.out _ _ ⟨(Zg BK299.out 0).trans rfl,(Zg BK299.out 1).trans rfl,(Zg BK299.out 2).trans rfl,(Zg BK299.out 3).trans rfl⟩ (fun hHeld => ?_);clear hK K;refine norm_ (a' := ?_) ?_ ?_;rotate_left
                     · show Act.put _ (some 64) _ = _
                       simp only [Act.put,V9,VA,VB,i64_w,i32_w];rfl
                     exact norm_ (by simp only [putAll,Act.put,List.setIfInBounds_toArray,List.set_cons_zero,List.set_cons_succ]) (hCont (.slice Ao38 y314.length co38,v318,v321) _ ⟨hHeld,(by (with_reducible repeat (first | apply Kd.Zj | apply Kd.Zi | apply Kd.Zm));exact Kd.ZE HO316.out (fun _ hk => ⟨hk.1.2,⟨hk.2,hk.1.1⟩⟩)),(by (with_reducible repeat (first | apply Kd.Zj | apply Kd.Zi | apply Kd.Zm));exact Kd.ZE HO319.out (fun _ hk => ⟨hk.1.2,⟨hk.2,hk.1.1⟩⟩)),(by (with_reducible repeat (first | apply Kd.Zj | apply Kd.Zi | apply Kd.Zm));exact Kd.ZE HO322.out (fun _ hk => ⟨hk.1.2,⟨hk.2,hk.1.1.2⟩⟩)),(by (with_reducible repeat (first | apply Kd.Zj | apply Kd.Zi | apply Kd.Zm));exact Kd.ZE HO_8.out (fun _ hk => ⟨hk.1.1,⟨hk.1.2,hk.2⟩⟩)),(by (with_reducible repeat (first | refine Zl ?_ _ | refine Zn ?_ | refine Zk ?_ _));exact BK299.out),(by repeat (first | (with_reducible first | exact HB.out | apply Zf | apply Za | apply Zd | refine Zo ?_ GE299.out) | exact HB.out))⟩)
                   · skip
                     refine Kd.XG (Kd.int .i64) _ 3 ?hg (N := 64) ?hd (xs := ([(Ze l1 (ji24)).f1,wrap64 (((Ze l1 (ji24)).f1) + ((Ze l1 (ji24)).f3))] : List Int)) (inner := [.int .i64 ((Ze l1 (ji24)).f1),.int .i64 (wrap64 (((Ze l1 (ji24)).f1) + ((Ze l1 (ji24)).f3)))]) (ok := fun _ => True) (okp := fun _ => True) ?hr ?hp (fun _ hk => hk) trivial (Below.refl _ _) (Nat.le_refl _) (by simp) ?_;(case hd => rfl);(case hg => rfl);(case hr => first | (go_simp;done) | (go_simp;rfl));(case hp => exact (Reps.one (show Kd.M (Kd.int .i64) _ _ _ ((Ze l1 (ji24)).f1) [.int .i64 ((Ze l1 (ji24)).f1)] from rfl) (Reps.one (show Kd.M (Kd.int .i64) _ _ _ (wrap64 (((Ze l1 (ji24)).f1) + ((Ze l1 (ji24)).f3))) [.int .i64 (wrap64 (((Ze l1 (ji24)).f1) + ((Ze l1 (ji24)).f3)))] from rfl) (Reps.none _ _))));intro v321 w37 ho38 hb hg_ hnew_;clear hg_ hnew_
                     (first | rw [← Ny320.out] at ho38 | (simp only [Int.reduceToNat] at ho38;rw [← Ny320.out] at ho38))
                     have n0_ := Zb.mk (Kd.ZY (by (with_reducible repeat (first | apply Kd.Zj | apply Kd.Zi | apply Kd.Zm));exact HO_7.out) (Kd.Xn ho38) hb);have n1_ := Zb.mk (Kd.ZY (by (with_reducible repeat (first | apply Kd.Zj | apply Kd.Zi | apply Kd.Zm));exact HO_8.out) (Kd.Xn ho38) hb);have n2_ := Zb.mk (Kd.ZY (by (with_reducible repeat (first | apply Kd.Zj | apply Kd.Zi | apply Kd.Zm));exact HO316.out) (Kd.Xn ho38) hb);have n3_ := Zb.mk (Kd.Xd (Kd.Xp (Kd.Xp (Kd.Xp ho38 (Kd.R_lt (by (with_reducible repeat (first | apply Kd.Zj | apply Kd.Zi | apply Kd.Zm));exact HO_7.out))) (Kd.R_lt (by (with_reducible repeat (first | apply Kd.Zj | apply Kd.Zi | apply Kd.Zm));exact HO_8.out))) (Kd.R_lt (by (with_reducible repeat (first | apply Kd.Zj | apply Kd.Zi | apply Kd.Zm));exact HO316.out))) (Zp (by repeat (first | (with_reducible first | exact HB.out | apply Zf | apply Za | apply Zd | refine Zo ?_ GE299.out) | exact HB.out))));have n4_ := Zb.mk (ZG (g := gb299) (o := .cells #[.int .i64 ((Ze l1 (ji24)).f0),.int .i64 ((Ze l1 (ji24)).f1),.int .i64 ((Ze l1 (ji24)).f2),.int .i64 ((Ze l1 (ji24)).f3)] 43 (0,0)) (by (with_reducible repeat (first | refine Zl ?_ _ | refine Zn ?_ | refine Zk ?_ _));exact BK299.out) hb);have n5_ := Zb.mk (Zr (by repeat (first | (with_reducible first | exact HB.out | apply Zf | apply Za | apply Zd | refine Zo ?_ GE299.out) | exact HB.out)) hb);clear HO_7;clear HO_8;clear HO316;clear BK299;clear HB;have HO_7 := n0_;have HO_8 := n1_;have HO316 := n2_;have HO322 := n3_;have BK299 := n4_;have HB := n5_;clear n0_ n1_ n2_ n3_ n4_ n5_;clear hb ho38;obtain ⟨Ao40,co40,eo40⟩ := Kd.ZS HO316.out
                     (first | subst eo40 | (injection eo40 with f1_ f2_ f3_;have f4_ := f1_.symm;have f5_ := f3_.symm;clear f1_ f2_ f3_;subst f4_;subst f5_))
                     refine hK.out _ _ ⟨(Zg BK299.out 0).trans rfl,(Zg BK299.out 1).trans rfl,(Zg BK299.out 2).trans rfl,(Zg BK299.out 3).trans rfl⟩ (fun hHeld => ?_);clear hK K;refine norm_ (a' := ?_) ?_ ?_;rotate_left
                     · show Act.put _ (some 64) _ = _
                       simp only [Act.put,V9,VA,VB,i64_w,i32_w];rfl
                     refine one_ (i := 9) (N := some 55) #[U,U,U,U,U,U,U,U,U,U,U,U,U,U,U,U,U,U,U,Z,Z,Z] rfl rfl (XB HT_.out (by kernel_rfl)) (by decide) (fun K hK => ?_);refine Kd.Xl (Kd.int .i64) (w0 := w) w.heap.size (by rfl) (.tmp 46) (.tmp 54) 32 3 (.int .i64 0) 8 rfl Try.underlying32 info3 rfl (by decide) (by omega) (.slice Ao31 x7_1.length co31) x7_1 y314 _ _ _ (fun k_ => some k_ ≠ (.slice Ao32 x8_1.length co32 : Value).ownBlock ∧ some k_ ≠ (.slice Ao40 y314.length co40 : Value).ownBlock ∧ some k_ ≠ (v321 : Value).ownBlock) (fun _ => False) rfl rfl ?aO ?aR (fun _ _ h => h) (fun _ h => h.elim) ?aF ?aB ?aS ?aL ?_
                     (case aR => repeat (first | exact (Kd.Z3 HO316.out).2.2 | (with_reducible refine Kd.Z9 ?_ _) | (with_reducible refine Kd.ZA ?_ _) | (with_reducible refine Kd.ZO ?_)))
                     (case aB => exact (by repeat (first | (with_reducible first | exact HB.out | apply Zf | apply Za | apply Zd | refine Zo ?_ GE299.out) | exact HB.out)))
                     (case aF => exact (fun k_ hk => ⟨Kd.fresh' (Kd.R_lt (by (with_reducible repeat (first | apply Kd.Zj | apply Kd.Zi | apply Kd.Zm));exact HO_8.out)) k_ hk,Kd.fresh' (Kd.R_lt (by (with_reducible repeat (first | apply Kd.Zj | apply Kd.Zi | apply Kd.Zm));exact HO316.out)) k_ hk,Kd.fresh' (Kd.R_lt (by (with_reducible repeat (first | apply Kd.Zj | apply Kd.Zi | apply Kd.Zm));exact HO322.out)) k_ hk⟩))
                     (case aO => exact (by (with_reducible repeat (first | apply Kd.Zj | apply Kd.Zi | apply Kd.Zm));exact Kd.ZE HO_7.out (fun _ hk => ⟨hk.1.1,⟨hk.1.2,hk.2⟩⟩)))
                     (case aS => exact (Zp (by repeat (first | (with_reducible first | exact HB.out | apply Zf | apply Za | apply Zd | refine Zo ?_ GE299.out) | exact HB.out))))
                     (case aL => have := LMc27.out;omega)
                     intro v318 w39 ho hb hg hat
                     rw [← Ny317.out] at ho;have n0_ := Zb.mk (Kd.Xt (ok := (fun k_ => some k_ ≠ (.slice Ao40 y314.length co40 : Value).ownBlock ∧ some k_ ≠ (v321 : Value).ownBlock)) (by (with_reducible repeat (first | apply Kd.Zj | apply Kd.Zi | apply Kd.Zm));exact Kd.ZE HO_8.out (fun _ hk => ⟨⟨hk.1.2,hk.2⟩,hk.1.1⟩)) hg hat);have n1_ := Zb.mk (XY (g := gb299) (o := .cells #[.int .i64 ((Ze l1 (ji24)).f0),.int .i64 ((Ze l1 (ji24)).f1),.int .i64 ((Ze l1 (ji24)).f2),.int .i64 ((Ze l1 (ji24)).f3)] 43 (0,0)) (by (with_reducible repeat (first | refine Zl ?_ _ | refine Zn ?_ | refine Zk ?_ _));exact BK299.out) hg (Kd.R_ne HO_7.out BK299.out (by decide)));have n2_ := Zb.mk (Kd.Xt (ok := (fun k_ => some k_ ≠ (.slice Ao32 x8_1.length co32 : Value).ownBlock ∧ some k_ ≠ (v321 : Value).ownBlock)) (by (with_reducible repeat (first | apply Kd.Zj | apply Kd.Zi | apply Kd.Zm));exact Kd.ZE HO316.out (fun _ hk => ⟨⟨hk.1.2,hk.2⟩,hk.1.1.2⟩)) hg hat);have n3_ := Zb.mk (Kd.Xt (ok := (fun k_ => some k_ ≠ (.slice Ao32 x8_1.length co32 : Value).ownBlock ∧ some k_ ≠ (.slice Ao40 y314.length co40 : Value).ownBlock)) (by (with_reducible repeat (first | apply Kd.Zj | apply Kd.Zi | apply Kd.Zm));exact Kd.ZE HO322.out (fun _ hk => ⟨⟨hk.1.2,hk.2⟩,hk.1.1.2⟩)) hg hat);have n4_ := Zb.mk (hb);have n5_ := Zb.mk (ho);clear HO_8;clear BK299;clear HO316;clear HO322;clear HB;clear HO_7;have HO_8 := n0_;have BK299 := n1_;have HO316 := n2_;have HO322 := n3_;have HB := n4_;have HO319 := n5_;clear n0_ n1_ n2_ n3_ n4_ n5_
                     clear ho hb hg hat
                     refine hK.out _ _ ⟨(Zg BK299.out 0).trans rfl,(Zg BK299.out 1).trans rfl,(Zg BK299.out 2).trans rfl,(Zg BK299.out 3).trans rfl⟩ (fun hHeld => ?_);clear hK K;refine norm_ (a' := ?_) ?_ ?_;rotate_left
                     · show Act.put _ (some 55) _ = _
                       simp only [Act.put,V9,VA,VB,i64_w,i32_w];rfl
                     exact norm_ (by simp only [putAll,Act.put,List.setIfInBounds_toArray,List.set_cons_zero,List.set_cons_succ]) (hCont (.slice Ao40 y314.length co40,v318,v321) _ ⟨hHeld,(by (with_reducible repeat (first | apply Kd.Zj | apply Kd.Zi | apply Kd.Zm));exact Kd.ZE HO316.out (fun _ hk => ⟨hk.2,⟨hk.1.2,hk.1.1⟩⟩)),(by (with_reducible repeat (first | apply Kd.Zj | apply Kd.Zi | apply Kd.Zm));exact Kd.ZE HO319.out (fun _ hk => ⟨hk.2.1,⟨hk.2.2,hk.1⟩⟩)),(by (with_reducible repeat (first | apply Kd.Zj | apply Kd.Zi | apply Kd.Zm));exact Kd.ZE HO322.out (fun _ hk => ⟨hk.1.2,⟨hk.2,hk.1.1⟩⟩)),(by (with_reducible repeat (first | apply Kd.Zj | apply Kd.Zi | apply Kd.Zm));exact Kd.ZE HO_8.out (fun _ hk => ⟨hk.1.1,⟨hk.2,hk.1.2⟩⟩)),(by (with_reducible repeat (first | refine Zl ?_ _ | refine Zn ?_ | refine Zk ?_ _));exact BK299.out),(by repeat (first | (with_reducible first | exact HB.out | apply Zf | apply Za | apply Zd | refine Zo ?_ GE299.out) | exact HB.out))⟩)
                 · skip
                   refine Kd.XG (Kd.int .i64) _ 3 ?hg (N := 64) ?hd (xs := ([(Ze l1 (ji24)).f1,wrap64 (((Ze l1 (ji24)).f1) + ((Ze l1 (ji24)).f3))] : List Int)) (inner := [.int .i64 ((Ze l1 (ji24)).f1),.int .i64 (wrap64 (((Ze l1 (ji24)).f1) + ((Ze l1 (ji24)).f3)))]) (ok := fun _ => True) (okp := fun _ => True) ?hr ?hp (fun _ hk => hk) trivial (Below.refl _ _) (Nat.le_refl _) (by simp) ?_;(case hd => rfl);(case hg => rfl);(case hr => first | (go_simp;done) | (go_simp;rfl));(case hp => exact (Reps.one (show Kd.M (Kd.int .i64) _ _ _ ((Ze l1 (ji24)).f1) [.int .i64 ((Ze l1 (ji24)).f1)] from rfl) (Reps.one (show Kd.M (Kd.int .i64) _ _ _ (wrap64 (((Ze l1 (ji24)).f1) + ((Ze l1 (ji24)).f3))) [.int .i64 (wrap64 (((Ze l1 (ji24)).f1) + ((Ze l1 (ji24)).f3)))] from rfl) (Reps.none _ _))));intro v321 w35 ho36 hb hg_ hnew_;clear hg_ hnew_
                   (first | rw [← Ny320.out] at ho36 | (simp only [Int.reduceToNat] at ho36;rw [← Ny320.out] at ho36))
                   have n0_ := Zb.mk (Kd.ZY (by (with_reducible repeat (first | apply Kd.Zj | apply Kd.Zi | apply Kd.Zm));exact HO_7.out) (Kd.Xn ho36) hb);have n1_ := Zb.mk (Kd.ZY (by (with_reducible repeat (first | apply Kd.Zj | apply Kd.Zi | apply Kd.Zm));exact HO_8.out) (Kd.Xn ho36) hb);have n2_ := Zb.mk (Kd.Xd (Kd.Xp (Kd.Xp ho36 (Kd.R_lt (by (with_reducible repeat (first | apply Kd.Zj | apply Kd.Zi | apply Kd.Zm));exact HO_7.out))) (Kd.R_lt (by (with_reducible repeat (first | apply Kd.Zj | apply Kd.Zi | apply Kd.Zm));exact HO_8.out))) (Zp (by repeat (first | (with_reducible first | exact HB.out | apply Zf | apply Za | apply Zd | refine Zo ?_ GE299.out) | exact HB.out))));have n3_ := Zb.mk (ZG (g := gb299) (o := .cells #[.int .i64 ((Ze l1 (ji24)).f0),.int .i64 ((Ze l1 (ji24)).f1),.int .i64 ((Ze l1 (ji24)).f2),.int .i64 ((Ze l1 (ji24)).f3)] 43 (0,0)) (by (with_reducible repeat (first | refine Zl ?_ _ | refine Zn ?_ | refine Zk ?_ _));exact BK299.out) hb);have n4_ := Zb.mk (Zr (by repeat (first | (with_reducible first | exact HB.out | apply Zf | apply Za | apply Zd | refine Zo ?_ GE299.out) | exact HB.out)) hb);clear HO_7;clear HO_8;clear BK299;clear HB;have HO_7 := n0_;have HO_8 := n1_;have HO322 := n2_;have BK299 := n3_;have HB := n4_;clear n0_ n1_ n2_ n3_ n4_;clear hb ho36;refine hK.out _ _ ⟨(Zg BK299.out 0).trans rfl,(Zg BK299.out 1).trans rfl,(Zg BK299.out 2).trans rfl,(Zg BK299.out 3).trans rfl⟩ (fun hHeld => ?_);clear hK K;refine norm_ (a' := ?_) ?_ ?_;rotate_left
                   · show Act.put _ (some 64) _ = _
                     simp only [Act.put,V9,VA,VB,i64_w,i32_w];rfl
                   refine one_ (i := 8) (N := some 54) #[U,U,U,U,U,U,U,U,U,Z,U,U,U,U,U,U,U,U,U,Z,Z,Z] rfl rfl (XB HT_.out (by kernel_rfl)) (by decide) (fun K hK => ?_);refine Kd.XG (Kd.int .i64) _ 3 ?hg (N := 54) ?hd (xs := ([(Ze l1 (ji24)).f0,wrap64 (((Ze l1 (ji24)).f0) + ((Ze l1 (ji24)).f2))] : List Int)) (inner := [.int .i64 ((Ze l1 (ji24)).f0),.int .i64 (wrap64 (((Ze l1 (ji24)).f0) + ((Ze l1 (ji24)).f2)))]) (ok := fun _ => True) (okp := fun _ => True) ?hr ?hp (fun _ hk => hk) trivial (Below.refl _ _) (Nat.le_refl _) (by simp) ?_;(case hd => rfl);(case hg => rfl);(case hr => first | (go_simp;done) | (go_simp;rfl));(case hp => exact (Reps.one (show Kd.M (Kd.int .i64) _ _ _ ((Ze l1 (ji24)).f0) [.int .i64 ((Ze l1 (ji24)).f0)] from rfl) (Reps.one (show Kd.M (Kd.int .i64) _ _ _ (wrap64 (((Ze l1 (ji24)).f0) + ((Ze l1 (ji24)).f2))) [.int .i64 (wrap64 (((Ze l1 (ji24)).f0) + ((Ze l1 (ji24)).f2)))] from rfl) (Reps.none _ _))));intro v315 w37 ho38 hb hg_ hnew_;clear hg_ hnew_
                   (first | rw [← Ny314.out] at ho38 | (simp only [Int.reduceToNat] at ho38;rw [← Ny314.out] at ho38))
                   have n0_ := Zb.mk (Kd.ZY (by (with_reducible repeat (first | apply Kd.Zj | apply Kd.Zi | apply Kd.Zm));exact HO_7.out) (Kd.Xn ho38) hb);have n1_ := Zb.mk (Kd.ZY (by (with_reducible repeat (first | apply Kd.Zj | apply Kd.Zi | apply Kd.Zm));exact HO_8.out) (Kd.Xn ho38) hb);have n2_ := Zb.mk (Kd.ZY (by (with_reducible repeat (first | apply Kd.Zj | apply Kd.Zi | apply Kd.Zm));exact HO322.out) (Kd.Xn ho38) hb);have n3_ := Zb.mk (Kd.Xd (Kd.Xp (Kd.Xp (Kd.Xp ho38 (Kd.R_lt (by (with_reducible repeat (first | apply Kd.Zj | apply Kd.Zi | apply Kd.Zm));exact HO_7.out))) (Kd.R_lt (by (with_reducible repeat (first | apply Kd.Zj | apply Kd.Zi | apply Kd.Zm));exact HO_8.out))) (Kd.R_lt (by (with_reducible repeat (first | apply Kd.Zj | apply Kd.Zi | apply Kd.Zm));exact HO322.out))) (Zp (by repeat (first | (with_reducible first | exact HB.out | apply Zf | apply Za | apply Zd | refine Zo ?_ GE299.out) | exact HB.out))));have n4_ := Zb.mk (ZG (g := gb299) (o := .cells #[.int .i64 ((Ze l1 (ji24)).f0),.int .i64 ((Ze l1 (ji24)).f1),.int .i64 ((Ze l1 (ji24)).f2),.int .i64 ((Ze l1 (ji24)).f3)] 43 (0,0)) (by (with_reducible repeat (first | refine Zl ?_ _ | refine Zn ?_ | refine Zk ?_ _));exact BK299.out) hb);have n5_ := Zb.mk (Zr (by repeat (first | (with_reducible first | exact HB.out | apply Zf | apply Za | apply Zd | refine Zo ?_ GE299.out) | exact HB.out)) hb);clear HO_7;clear HO_8;clear HO322;clear BK299;clear HB;have HO_7 := n0_;have HO_8 := n1_;have HO322 := n2_;have HO316 := n3_;have BK299 := n4_;have HB := n5_;clear n0_ n1_ n2_ n3_ n4_ n5_;clear hb ho38;obtain ⟨Ao40,co40,eo40⟩ := Kd.ZS HO316.out
                   (first | subst eo40 | (injection eo40 with f1_ f2_ f3_;have f4_ := f1_.symm;have f5_ := f3_.symm;clear f1_ f2_ f3_;subst f4_;subst f5_))
                   refine hK.out _ _ ⟨(Zg BK299.out 0).trans rfl,(Zg BK299.out 1).trans rfl,(Zg BK299.out 2).trans rfl,(Zg BK299.out 3).trans rfl⟩ (fun hHeld => ?_);clear hK K;refine norm_ (a' := ?_) ?_ ?_;rotate_left
                   · show Act.put _ (some 54) _ = _
                     simp only [Act.put,V9,VA,VB,i64_w,i32_w];rfl
                   refine one_ (i := 9) (N := some 55) #[U,U,U,U,U,U,U,U,U,U,U,U,U,U,U,U,U,U,U,Z,Z,Z] rfl rfl (XB HT_.out (by kernel_rfl)) (by decide) (fun K hK => ?_);refine Kd.Xl (Kd.int .i64) (w0 := w) w.heap.size (by rfl) (.tmp 46) (.tmp 54) 32 3 (.int .i64 0) 8 rfl Try.underlying32 info3 rfl (by decide) (by omega) (.slice Ao31 x7_1.length co31) x7_1 y314 _ _ _ (fun k_ => some k_ ≠ (.slice Ao32 x8_1.length co32 : Value).ownBlock ∧ some k_ ≠ (v321 : Value).ownBlock ∧ some k_ ≠ (.slice Ao40 y314.length co40 : Value).ownBlock) (fun _ => False) rfl rfl ?aO ?aR (fun _ _ h => h) (fun _ h => h.elim) ?aF ?aB ?aS ?aL ?_
                   (case aR => repeat (first | exact (Kd.Z3 HO316.out).2.2 | (with_reducible refine Kd.Z9 ?_ _) | (with_reducible refine Kd.ZA ?_ _) | (with_reducible refine Kd.ZO ?_)))
                   (case aB => exact (by repeat (first | (with_reducible first | exact HB.out | apply Zf | apply Za | apply Zd | refine Zo ?_ GE299.out) | exact HB.out)))
                   (case aF => exact (fun k_ hk => ⟨Kd.fresh' (Kd.R_lt (by (with_reducible repeat (first | apply Kd.Zj | apply Kd.Zi | apply Kd.Zm));exact HO_8.out)) k_ hk,Kd.fresh' (Kd.R_lt (by (with_reducible repeat (first | apply Kd.Zj | apply Kd.Zi | apply Kd.Zm));exact HO322.out)) k_ hk,Kd.fresh' (Kd.R_lt (by (with_reducible repeat (first | apply Kd.Zj | apply Kd.Zi | apply Kd.Zm));exact HO316.out)) k_ hk⟩))
                   (case aO => exact (by (with_reducible repeat (first | apply Kd.Zj | apply Kd.Zi | apply Kd.Zm));exact Kd.ZE HO_7.out (fun _ hk => ⟨hk.1.1,⟨hk.1.2,hk.2⟩⟩)))
                   (case aS => exact (Zp (by repeat (first | (with_reducible first | exact HB.out | apply Zf | apply Za | apply Zd | refine Zo ?_ GE299.out) | exact HB.out))))
                   (case aL => have := LMc27.out;omega)
                   intro v318 w39 ho hb hg hat
                   rw [← Ny317.out] at ho;have n0_ := Zb.mk (Kd.Xt (ok := (fun k_ => some k_ ≠ (v321 : Value).ownBlock ∧ some k_ ≠ (.slice Ao40 y314.length co40 : Value).ownBlock)) (by (with_reducible repeat (first | apply Kd.Zj | apply Kd.Zi | apply Kd.Zm));exact Kd.ZE HO_8.out (fun _ hk => ⟨⟨hk.1.2,hk.2⟩,hk.1.1⟩)) hg hat);have n1_ := Zb.mk (XY (g := gb299) (o := .cells #[.int .i64 ((Ze l1 (ji24)).f0),.int .i64 ((Ze l1 (ji24)).f1),.int .i64 ((Ze l1 (ji24)).f2),.int .i64 ((Ze l1 (ji24)).f3)] 43 (0,0)) (by (with_reducible repeat (first | refine Zl ?_ _ | refine Zn ?_ | refine Zk ?_ _));exact BK299.out) hg (Kd.R_ne HO_7.out BK299.out (by decide)));have n2_ := Zb.mk (Kd.Xt (ok := (fun k_ => some k_ ≠ (.slice Ao32 x8_1.length co32 : Value).ownBlock ∧ some k_ ≠ (.slice Ao40 y314.length co40 : Value).ownBlock)) (by (with_reducible repeat (first | apply Kd.Zj | apply Kd.Zi | apply Kd.Zm));exact Kd.ZE HO322.out (fun _ hk => ⟨⟨hk.1.2,hk.2⟩,hk.1.1.2⟩)) hg hat);have n3_ := Zb.mk (Kd.Xt (ok := (fun k_ => some k_ ≠ (.slice Ao32 x8_1.length co32 : Value).ownBlock ∧ some k_ ≠ (v321 : Value).ownBlock)) (by (with_reducible repeat (first | apply Kd.Zj | apply Kd.Zi | apply Kd.Zm));exact Kd.ZE HO316.out (fun _ hk => ⟨⟨hk.1.2,hk.2⟩,hk.1.1.2⟩)) hg hat);have n4_ := Zb.mk (hb);have n5_ := Zb.mk (ho);clear HO_8;clear BK299;clear HO322;clear HO316;clear HB;clear HO_7;have HO_8 := n0_;have BK299 := n1_;have HO322 := n2_;have HO316 := n3_;have HB := n4_;have HO319 := n5_;clear n0_ n1_ n2_ n3_ n4_ n5_
                   clear ho hb hg hat
                   refine hK.out _ _ ⟨(Zg BK299.out 0).trans rfl,(Zg BK299.out 1).trans rfl,(Zg BK299.out 2).trans rfl,(Zg BK299.out 3).trans rfl⟩ (fun hHeld => ?_);clear hK K;refine norm_ (a' := ?_) ?_ ?_;rotate_left
                   · show Act.put _ (some 55) _ = _
                     simp only [Act.put,V9,VA,VB,i64_w,i32_w];rfl
                   exact norm_ (by simp only [putAll,Act.put,List.setIfInBounds_toArray,List.set_cons_zero,List.set_cons_succ]) (hCont (.slice Ao40 y314.length co40,v318,v321) _ ⟨hHeld,(by (with_reducible repeat (first | apply Kd.Zj | apply Kd.Zi | apply Kd.Zm));exact Kd.ZE HO316.out (fun _ hk => ⟨hk.2,⟨hk.1.2,hk.1.1⟩⟩)),(by (with_reducible repeat (first | apply Kd.Zj | apply Kd.Zi | apply Kd.Zm));exact Kd.ZE HO319.out (fun _ hk => ⟨hk.2.2,⟨hk.2.1,hk.1⟩⟩)),(by (with_reducible repeat (first | apply Kd.Zj | apply Kd.Zi | apply Kd.Zm));exact Kd.ZE HO322.out (fun _ hk => ⟨hk.1.2,⟨hk.2,hk.1.1⟩⟩)),(by (with_reducible repeat (first | apply Kd.Zj | apply Kd.Zi | apply Kd.Zm));exact Kd.ZE HO_8.out (fun _ hk => ⟨hk.1.2,⟨hk.2,hk.1.1⟩⟩)),(by (with_reducible repeat (first | refine Zl ?_ _ | refine Zn ?_ | refine Zk ?_ _));exact BK299.out),(by repeat (first | (with_reducible first | exact HB.out | apply Zf | apply Za | apply Zd | refine Zo ?_ GE299.out) | exact HB.out))⟩)
               rintro ⟨v315,v318,v321⟩ w41 ⟨hS_,h0_,h1_,h2_,h3_,h4_,h5_⟩
               have n0_ : Zb (Kd.R (Kd.int .i64) 3 w41 w.heap.size (fun k_ => some k_ ≠ (v318 : Value).ownBlock ∧ some k_ ≠ (v321 : Value).ownBlock ∧ some k_ ≠ (.slice Ao32 x8_1.length co32 : Value).ownBlock) v315 y314) := ⟨h0_⟩
               have n1_ : Zb (Kd.R (Kd.int .i64) 3 w41 w.heap.size (fun k_ => some k_ ≠ (v315 : Value).ownBlock ∧ some k_ ≠ (v321 : Value).ownBlock ∧ some k_ ≠ (.slice Ao32 x8_1.length co32 : Value).ownBlock) v318 y317) := ⟨h1_⟩
               have n2_ : Zb (Kd.R (Kd.int .i64) 3 w41 w.heap.size (fun k_ => some k_ ≠ (v315 : Value).ownBlock ∧ some k_ ≠ (v318 : Value).ownBlock ∧ some k_ ≠ (.slice Ao32 x8_1.length co32 : Value).ownBlock) v321 y320) := ⟨h2_⟩
               have n3_ : Zb (Kd.R (Kd.int .i64) 3 w41 w.heap.size (fun k_ => some k_ ≠ (v315 : Value).ownBlock ∧ some k_ ≠ (v318 : Value).ownBlock ∧ some k_ ≠ (v321 : Value).ownBlock) (.slice Ao32 x8_1.length co32) x8_1) := ⟨h3_⟩
               have n4_ : Zb (w41.heap[gb299]? = some (.cells #[.int .i64 ((Ze l1 (ji24)).f0),.int .i64 ((Ze l1 (ji24)).f1),.int .i64 ((Ze l1 (ji24)).f2),.int .i64 ((Ze l1 (ji24)).f3)] 43 (0,0))) := ⟨h4_⟩
               have n5_ : Zb (Below w.heap.size w w41) := ⟨h5_⟩
               clear HO_7;clear HO_8;clear BK299;clear HB;clear h0_ h1_ h2_ h3_ h4_ h5_;have HO316 := n0_;have HO319 := n1_;have HO322 := n2_;have HO_8 := n3_;have BK299 := n4_;have HB := n5_;clear n0_ n1_ n2_ n3_ n4_ n5_;have hHeld : w41.cell? ⟨gb299,0,none⟩ = some (.int .i64 ((Ze l1 (ji24)).f0)) ∧ w41.cell? ⟨gb299,1,none⟩ = some (.int .i64 ((Ze l1 (ji24)).f1)) ∧ w41.cell? ⟨gb299,2,none⟩ = some (.int .i64 ((Ze l1 (ji24)).f2)) ∧ w41.cell? ⟨gb299,3,none⟩ = some (.int .i64 ((Ze l1 (ji24)).f3)) := hS_;obtain ⟨Ao43,co43,eo43⟩ := Kd.ZS HO322.out
               (first | subst eo43 | (injection eo43 with f1_ f2_ f3_;have f4_ := f1_.symm;have f5_ := f3_.symm;clear f1_ f2_ f3_;subst f4_;subst f5_))
               refine norm_ (a' := ?_) ?_ ?_;rotate_left
               · simp only [putAll,Act.put,List.setIfInBounds_toArray,List.set_cons_zero,List.set_cons_succ]
                 rfl
               refine one_ (i := 19) (N := some 65) #[U,U,U,U,U,U,U,U,U,U,U,U,U,U,U,U,U,U,U,U,Z,Z] rfl rfl (XB HT_.out (by kernel_rfl)) (by decide) (fun K hK => ?_);refine Kd.Xl (Kd.int .i64) (w0 := w) w.heap.size (by rfl) (.tmp 56) (.tmp 64) 32 3 (.int .i64 0) 8 rfl Try.underlying32 info3 rfl (by decide) (by omega) (.slice Ao32 x8_1.length co32) x8_1 y320 _ _ _ (fun k_ => some k_ ≠ (v315 : Value).ownBlock ∧ some k_ ≠ (v318 : Value).ownBlock ∧ some k_ ≠ (.slice Ao43 y320.length co43 : Value).ownBlock) (fun _ => False) rfl rfl ?aO ?aR (fun _ _ h => h) (fun _ h => h.elim) ?aF ?aB ?aS ?aL ?_
               (case aR => repeat (first | exact (Kd.Z3 HO322.out).2.2 | (with_reducible refine Kd.Z9 ?_ _) | (with_reducible refine Kd.ZA ?_ _) | (with_reducible refine Kd.ZO ?_)))
               (case aB => exact (by repeat (first | (with_reducible first | exact HB.out | apply Zf | apply Za | apply Zd | refine Zo ?_ GE299.out) | exact HB.out)))
               (case aF => exact (fun k_ hk => ⟨Kd.fresh' (Kd.R_lt (by (with_reducible repeat (first | apply Kd.Zj | apply Kd.Zi | apply Kd.Zm));exact HO316.out)) k_ hk,Kd.fresh' (Kd.R_lt (by (with_reducible repeat (first | apply Kd.Zj | apply Kd.Zi | apply Kd.Zm));exact HO319.out)) k_ hk,Kd.fresh' (Kd.R_lt (by (with_reducible repeat (first | apply Kd.Zj | apply Kd.Zi | apply Kd.Zm));exact HO322.out)) k_ hk⟩))
               (case aO => exact (by (with_reducible repeat (first | apply Kd.Zj | apply Kd.Zi | apply Kd.Zm));exact HO_8.out))
               (case aS => exact (Zp (by repeat (first | (with_reducible first | exact HB.out | apply Zf | apply Za | apply Zd | refine Zo ?_ GE299.out) | exact HB.out))))
               (case aL => have := LMc28.out;omega)
               intro v324 w42 ho hb hg hat
               rw [← Ny323.out] at ho;have n0_ := Zb.mk (XY (g := gb299) (o := .cells #[.int .i64 ((Ze l1 (ji24)).f0),.int .i64 ((Ze l1 (ji24)).f1),.int .i64 ((Ze l1 (ji24)).f2),.int .i64 ((Ze l1 (ji24)).f3)] 43 (0,0)) (by (with_reducible repeat (first | refine Zl ?_ _ | refine Zn ?_ | refine Zk ?_ _));exact BK299.out) hg (Kd.R_ne HO_8.out BK299.out (by decide)));have n1_ := Zb.mk (Kd.Xt (ok := (fun k_ => some k_ ≠ (v318 : Value).ownBlock ∧ some k_ ≠ (.slice Ao43 y320.length co43 : Value).ownBlock)) (by (with_reducible repeat (first | apply Kd.Zj | apply Kd.Zi | apply Kd.Zm));exact Kd.ZE HO316.out (fun _ hk => ⟨⟨hk.1,hk.2.1⟩,hk.2.2⟩)) hg hat);have n2_ := Zb.mk (Kd.Xt (ok := (fun k_ => some k_ ≠ (v315 : Value).ownBlock ∧ some k_ ≠ (.slice Ao43 y320.length co43 : Value).ownBlock)) (by (with_reducible repeat (first | apply Kd.Zj | apply Kd.Zi | apply Kd.Zm));exact Kd.ZE HO319.out (fun _ hk => ⟨⟨hk.1,hk.2.1⟩,hk.2.2⟩)) hg hat);have n3_ := Zb.mk (Kd.Xt (ok := (fun k_ => some k_ ≠ (v315 : Value).ownBlock ∧ some k_ ≠ (v318 : Value).ownBlock)) (by (with_reducible repeat (first | apply Kd.Zj | apply Kd.Zi | apply Kd.Zm));exact Kd.ZE HO322.out (fun _ hk => ⟨⟨hk.1,hk.2.1⟩,hk.2.2⟩)) hg hat);have n4_ := Zb.mk (hb);have n5_ := Zb.mk (ho);clear BK299;clear HO316;clear HO319;clear HO322;clear HB;clear HO_8;have BK299 := n0_;have HO316 := n1_;have HO319 := n2_;have HO322 := n3_;have HB := n4_;have HO325 := n5_;clear n0_ n1_ n2_ n3_ n4_ n5_
               clear ho hb hg hat
               refine hK.out _ _ ⟨(Zg BK299.out 0).trans rfl,(Zg BK299.out 1).trans rfl,(Zg BK299.out 2).trans rfl,(Zg BK299.out 3).trans rfl⟩ (fun hHeld => ?_);clear hK K;refine norm_ (a' := ?_) ?_ ?_;rotate_left
               · show Act.put _ (some 65) _ = _
                 simp only [Act.put,V9,VA,VB,i64_w,i32_w];rfl
               refine pure_ (i := 20) (N := some 7) (v := ?_) (a' := ?_) #[U,U,U,U,U,U,U,U,U,U,U,U,U,U,U,U,U,U,U,U,U,Z] rfl rfl (Zs HT_.out (by kernel_rfl)) (fun _ _ _ h => h) (Or.inl ⟨by rfl,?_⟩) ?_ ?_;rotate_left
               · intro w'
                 go_simp;with_reducible rfl
               rotate_left
               · simp only [Act.put,V9,VA,VB,i64_w,i32_w]
                 rfl
               refine pure_ (i := 21) (N := some 8) (v := ?_) (a' := ?_) #[U,U,U,U,U,U,U,U,U,U,U,U,U,U,U,U,U,U,U,U,U,U] rfl rfl (Zs HT_.out (by kernel_rfl)) (fun _ _ _ h => h) (Or.inl ⟨by rfl,?_⟩) ?_ ?_;rotate_left
               · intro w'
                 go_simp;with_reducible rfl
               rotate_left
               · simp only [Act.put,V9,VA,VB,i64_w,i32_w]
                 rfl
               refine done_ (XV HT_.out (by kernel_rfl)) ?_
               try go_wp2
               go_roundg k1
               case measure => have := HK1.out;omega
               case rel => exact ⟨(y317),(y323),(wrap64 (x9_1 + 1)),(by first | rfl | (simp;done) | (simp [*];done)),H',⟨by have := HK1.out;omega⟩,⟨by (with_reducible repeat (first | apply Kd.Zj | apply Kd.Zi | apply Kd.Zm));exact Kd.ZE HO319.out (fun _ hk => hk.2)⟩,⟨by (with_reducible repeat (first | apply Kd.Zj | apply Kd.Zi | apply Kd.Zm));exact Kd.ZE HO325.out (fun _ hk => hk.2.1)⟩,⟨by repeat (first | (with_reducible first | exact HB.out | apply Zf | apply Za | apply Zd | refine Zo ?_ GE299.out) | exact HB.out)⟩⟩
             · rw [if_neg c28] at H
               exact absurd H (by simp)
           · rw [if_neg c27] at H
             exact absurd H (by simp)
         · rw [if_neg c26] at H
           exact absurd H (by simp)
       · rw [if_neg c25] at H
         exact absurd H (by simp)
   · rw [if_neg c4] at H
     have c4b0 : decide (x9_1 < (wrap64 ((l0.length : Int) + (l1.length : Int)))) = false := decide_eq_false c4;clear c4;replace H := Option.bind_eq_some_iff.mp H;obtain ⟨t326,A440,H⟩ := H;replace H : ((Xb.f x8_1).bind fun t329 => (Zc.l1 k1 l0 l1 a2 t326 t329 ([] : List (List (S43))) 0)) = some r := H;have A44 := Zb.mk A440;clear A440;replace H := Option.bind_eq_some_iff.mp H;obtain ⟨t329,A450,H⟩ := H;replace H : (Zc.l1 k1 l0 l1 a2 t326 t329 ([] : List (List (S43))) 0) = some r := H;have A45 := Zb.mk A450;clear A450;have H' := Zb.mk H;clear H;obtain ⟨Ao46,co46,eo46⟩ := Kd.ZS HO_7.out;subst eo46
     go_wp2_with (first | ((with_reducible refine Zw (f := 112) rfl ?_);refine ZP (some 67) rfl rfl Try.func112 (by kernel_rfl) rfl #[.slice Ao46 x7_1.length co46] rfl (by (try simp only [List.map_toArray,List.map_cons,List.map_nil]);first | done | rfl | (simp only [List.length_drop,List.length_take];rfl)) ?_;(with_reducible refine (Xb.calls _ _ x7_1 t326 _ ?side1 ?side2 A44.out).mono ?_);(case side1 => repeat (first | exact (Kd.Z3 HO_7.out).2.2 | (with_reducible refine Kd.Z9 ?_ _) | (with_reducible refine Kd.ZA ?_ _) | (with_reducible refine Kd.ZO ?_)));(case side2 => exact (Kd.Z3 HO_7.out).2.1);rintro e w47 ⟨v327,rfl,ho0,hb⟩;refine ⟨_,rfl,?_⟩;have n0_ := Zb.mk (Kd.ZY (by (with_reducible repeat (first | apply Kd.Zj | apply Kd.Zi | apply Kd.Zm));exact HO_7.out) (Kd.Xn ho0) hb);have n1_ := Zb.mk (Kd.ZY (by (with_reducible repeat (first | apply Kd.Zj | apply Kd.Zi | apply Kd.Zm));exact HO_8.out) (Kd.Xn ho0) hb);have n2_ := Zb.mk (Kd.Xd (Kd.Xp (Kd.Xp ho0 (Kd.R_lt (by (with_reducible repeat (first | apply Kd.Zj | apply Kd.Zi | apply Kd.Zm));exact HO_7.out))) (Kd.R_lt (by (with_reducible repeat (first | apply Kd.Zj | apply Kd.Zi | apply Kd.Zm));exact HO_8.out))) (Zp (by repeat (first | (with_reducible first | exact HB.out | apply Zf | apply Za | apply Zd) | exact HB.out))));have n3_ := Zb.mk (Zr (by repeat (first | (with_reducible first | exact HB.out | apply Zf | apply Za | apply Zd) | exact HB.out)) hb);clear HO_7;clear HO_8;clear HB;have HO_7 := n0_;have HO_8 := n1_;have HO328 := n2_;have HB := n3_;clear n0_ n1_ n2_ n3_;(try clear hb);(try clear hb2);(try clear hk);(try clear hi);(try clear ho0);obtain ⟨Ao48,co48,eo48⟩ := Kd.ZS HO_8.out;subst eo48) | ((with_reducible refine Zw (f := 112) rfl ?_);refine ZP (some 69) rfl rfl Try.func112 (by kernel_rfl) rfl #[.slice Ao48 x8_1.length co48] rfl (by (try simp only [List.map_toArray,List.map_cons,List.map_nil]);first | done | rfl | (simp only [List.length_drop,List.length_take];rfl)) ?_;(with_reducible refine (Xb.calls _ _ x8_1 t329 _ ?side1 ?side2 A45.out).mono ?_);(case side1 => repeat (first | exact (Kd.Z3 HO_8.out).2.2 | (with_reducible refine Kd.Z9 ?_ _) | (with_reducible refine Kd.ZA ?_ _) | (with_reducible refine Kd.ZO ?_)));(case side2 => exact (Kd.Z3 HO_8.out).2.1);rintro e w49 ⟨v330,rfl,ho0,hb⟩;refine ⟨_,rfl,?_⟩;have n0_ := Zb.mk (Kd.ZY (by (with_reducible repeat (first | apply Kd.Zj | apply Kd.Zi | apply Kd.Zm));exact HO_7.out) (Kd.Xn ho0) hb);have n1_ := Zb.mk (Kd.ZY (by (with_reducible repeat (first | apply Kd.Zj | apply Kd.Zi | apply Kd.Zm));exact HO_8.out) (Kd.Xn ho0) hb);have n2_ := Zb.mk (Kd.ZY (by (with_reducible repeat (first | apply Kd.Zj | apply Kd.Zi | apply Kd.Zm));exact HO328.out) (Kd.Xn ho0) hb);have n3_ := Zb.mk (Kd.Xd (Kd.Xp (Kd.Xp (Kd.Xp ho0 (Kd.R_lt (by (with_reducible repeat (first | apply Kd.Zj | apply Kd.Zi | apply Kd.Zm));exact HO_7.out))) (Kd.R_lt (by (with_reducible repeat (first | apply Kd.Zj | apply Kd.Zi | apply Kd.Zm));exact HO_8.out))) (Kd.R_lt (by (with_reducible repeat (first | apply Kd.Zj | apply Kd.Zi | apply Kd.Zm));exact HO328.out))) (Zp (by repeat (first | (with_reducible first | exact HB.out | apply Zf | apply Za | apply Zd) | exact HB.out))));have n4_ := Zb.mk (Zr (by repeat (first | (with_reducible first | exact HB.out | apply Zf | apply Za | apply Zd) | exact HB.out)) hb);clear HO_7;clear HO_8;clear HO328;clear HB;have HO_7 := n0_;have HO_8 := n1_;have HO328 := n2_;have HO331 := n3_;have HB := n4_;clear n0_ n1_ n2_ n3_ n4_;(try clear hb);(try clear hb2);(try clear hk);(try clear hi);(try clear ho0)))
     go_loopg [11,12] k1 (fun kq v11 v12 w' => ∃ (x11_2 : List (List (S43))) (x12_2 : Int),v12 = .int .i64 x12_2 ∧ Zb (Zc.l1 kq l0 l1 a2 t326 t329 x11_2 x12_2 = some r) ∧ Zb (kq ≤ k1) ∧ Zb (Kd.R (Kd.int .i64) 3 w' w.heap.size (fun k_ => some k_ ≠ (v330 : Value).ownBlock) v327 t326) ∧ Zb (Kd.R (Kd.int .i64) 3 w' w.heap.size (fun k_ => some k_ ≠ (v327 : Value).ownBlock) v330 t329) ∧ Zb (Kd.S (Kd.slice 43 k43) 22 w' w.heap.size (fun _ => True) v11 x11_2) ∧ Zb (Below w.heap.size w w'))
     case atStart => exact ⟨(([] : List (List (S43)))),(0),(by first | rfl | (simp;done) | (simp [*];done)),H',⟨Nat.le_refl _⟩,⟨by (with_reducible repeat (first | apply Kd.Zj | apply Kd.Zi | apply Kd.Zm));exact Kd.ZE HO328.out (fun _ hk => hk.2)⟩,⟨by (with_reducible repeat (first | apply Kd.Zj | apply Kd.Zi | apply Kd.Zm));exact Kd.ZE HO331.out (fun _ hk => hk.2)⟩,⟨by first | exact Kd.S_nil _ _ _ _ _ | exact Kd.N_nil _ _ _ _ _ | exact Kd.V_nil _ _ _ _ _ | exact Kd.Q_nil _ _ _ _ _ | exact Kd.R_nil _ _ _ _ _⟩,⟨by repeat (first | (with_reducible first | exact HB.out | apply Zf | apply Za | apply Zd) | exact HB.out)⟩⟩
     case round =>
      clear H'
      (try clear c1); (try clear c2); (try clear p2); (try clear p3); (try clear q3); (try clear hx3); (try clear c4); (try clear c4b0); (try clear c5); (try clear c5b0); (try clear c6); (try clear p6); (try clear c7); (try clear c8); (try clear c11); (try clear c25); (try clear c25b0); (try clear c26); (try clear c26b0); (try clear c27); (try clear c28); (try clear p31); (try clear q31); (try clear hx31); (try clear hcz30_0); (try clear hcz30_1); (try clear hcz30_2); (try clear hcz30_3); (try clear hfz30_0); (try clear hfz30_1); (try clear hfz30_2); (try clear hfz30_3); (try clear hx313_0); (try clear hx313_1); (try clear hx313_2); (try clear hx313_3); (try clear p313); (try clear q313)
      obtain ⟨x11_2,x12_2,rfl,HA,HK2,HO_7,HO_8,HO_11,HB⟩ := hrel
      cases gk with
      | zero => exact absurd HA.out (by simp [Zc.l1])
      | succ k2 =>
       have H := HA.out;clear HA;simp only [Zc.l1] at H
       by_cases c50 : (wrap64 (x12_2 + 1)) < (t329.length : Int)
       · rw [if_pos c50] at H
         have c50b0 : decide ((wrap64 (x12_2 + 1)) < (t329.length : Int)) = true := decide_eq_true c50;clear c50;have H' := Zb.mk H;clear H;obtain ⟨Ao51,co51,eo51⟩ := Kd.ZS HO_8.out;subst eo51
         go_wp2
         go_loopg [13,14] k2 (fun kq v13 v14 w' => ∃ (x13_3 : List (S43)) (x14_3 : Int),v14 = .int .i64 x14_3 ∧ Zb (Zc.l2 kq l0 l1 a2 t326 t329 x11_2 x12_2 x13_3 x14_3 = some r) ∧ Zb (kq ≤ k2) ∧ Zb (Kd.R (Kd.int .i64) 3 w' w.heap.size (fun k_ => some k_ ≠ ((.slice Ao51 t329.length co51) : Value).ownBlock) v327 t326) ∧ Zb (Kd.R (Kd.int .i64) 3 w' w.heap.size (fun k_ => some k_ ≠ (v327 : Value).ownBlock) (.slice Ao51 t329.length co51) t329) ∧ Zb (Kd.S (Kd.slice 43 k43) 22 w' w.heap.size (fun k_ => some k_ ≠ (v13 : Value).ownBlock) u11 x11_2) ∧ Zb (Kd.R k43 43 w' w.heap.size (fun _ => True) v13 x13_3) ∧ Zb (Below w.heap.size w w'))
         case atStart => exact ⟨(([] : List (S43))),(0),(by first | rfl | (simp;done) | (simp [*];done)),H',⟨Nat.le_refl _⟩,⟨by (with_reducible repeat (first | apply Kd.Zj | apply Kd.Zi | apply Kd.Zm));exact HO_7.out⟩,⟨by (with_reducible repeat (first | apply Kd.Zj | apply Kd.Zi | apply Kd.Zm));exact HO_8.out⟩,⟨by (with_reducible repeat (first | apply Kd.Xe | apply Kd.Xf | apply Kd.Xj));exact Kd.Qp HO_11.out (fun _ hk => (by simp [Value.ownBlock]))⟩,⟨by first | exact Kd.R_nil _ _ _ _ _ | exact Kd.N_nil _ _ _ _ _ | exact Kd.V_nil _ _ _ _ _ | exact Kd.Q_nil _ _ _ _ _ | exact Kd.S_nil _ _ _ _ _⟩,⟨by repeat (first | (with_reducible first | exact HB.out | apply Zf | apply Za | apply Zd) | exact HB.out)⟩⟩
         case round =>
          clear H'
          (try clear c1); (try clear c2); (try clear p2); (try clear p3); (try clear q3); (try clear hx3); (try clear c4); (try clear c4b0); (try clear c5); (try clear c5b0); (try clear c6); (try clear p6); (try clear c7); (try clear c8); (try clear c11); (try clear c25); (try clear c25b0); (try clear c26); (try clear c26b0); (try clear c27); (try clear c28); (try clear p31); (try clear q31); (try clear hx31); (try clear c50); (try clear c50b0); (try clear hcz30_0); (try clear hcz30_1); (try clear hcz30_2); (try clear hcz30_3); (try clear hfz30_0); (try clear hfz30_1); (try clear hfz30_2); (try clear hfz30_3); (try clear hx313_0); (try clear hx313_1); (try clear hx313_2); (try clear hx313_3); (try clear p2); (try clear p3); (try clear p31); (try clear p313); (try clear p6); (try clear q3); (try clear q31); (try clear q313)
          obtain ⟨x13_3,x14_3,rfl,HA,HK3,HO_7,HO_8,HO_11,HO_13,HB⟩ := hrel
          cases gk with
          | zero => exact absurd HA.out (by simp [Zc.l2])
          | succ k3 =>
           have H := HA.out;clear HA;simp only [Zc.l2] at H
           by_cases c52 : (wrap64 (x14_3 + 1)) < (t326.length : Int)
           · rw [if_pos c52] at H
             have c52b0 : decide ((wrap64 (x14_3 + 1)) < (t326.length : Int)) = true := decide_eq_true c52;clear c52
             by_cases c53 : 0 ≤ x14_3
             · rw [if_pos c53] at H
               have c53b0 : decide (0 ≤ x14_3) = true := decide_eq_true c53;clear c53
               by_cases c54 : x14_3 < (t326.length : Int)
               · rw [if_pos c54] at H
                 have c54b0 : decide (x14_3 < (t326.length : Int)) = true := decide_eq_true c54;clear c54
                 by_cases c55 : 0 ≤ x12_2
                 · rw [if_pos c55] at H
                   have c55b0 : decide (0 ≤ x12_2) = true := decide_eq_true c55;clear c55
                   by_cases c56 : x12_2 < (t329.length : Int)
                   · rw [if_pos c56] at H
                     have c56b0 : decide (x12_2 < (t329.length : Int)) = true := decide_eq_true c56;clear c56;replace H := Option.bind_eq_some_iff.mp H;obtain ⟨t334,A570,H⟩ := H;replace H : ((Z0.f k3 l1 (rd t326 x14_3) (rd t329 x12_2)).bind fun t337 => (if a2 = 1 then (if t334 = true then (Zc.j3 k3 l0 l1 a2 t326 t329 x11_2 x12_2 x13_3 x14_3 true) else (if t337 = true then (Zc.j3 k3 l0 l1 a2 t326 t329 x11_2 x12_2 x13_3 x14_3 true) else (if a2 = 2 then (if a2 = 3 then (Zc.j3 k3 l0 l1 a2 t326 t329 x11_2 x12_2 x13_3 x14_3 false) else (Zc.j3 k3 l0 l1 a2 t326 t329 x11_2 x12_2 x13_3 x14_3 false)) else (if a2 = 3 then (Zc.j3 k3 l0 l1 a2 t326 t329 x11_2 x12_2 x13_3 x14_3 false) else (Zc.j3 k3 l0 l1 a2 t326 t329 x11_2 x12_2 x13_3 x14_3 false))))) else (if a2 = 2 then (if t334 = true then (if t337 = true then (Zc.j3 k3 l0 l1 a2 t326 t329 x11_2 x12_2 x13_3 x14_3 true) else (if a2 = 3 then (Zc.j3 k3 l0 l1 a2 t326 t329 x11_2 x12_2 x13_3 x14_3 (!t337)) else (Zc.j3 k3 l0 l1 a2 t326 t329 x11_2 x12_2 x13_3 x14_3 false))) else (if a2 = 3 then (Zc.j3 k3 l0 l1 a2 t326 t329 x11_2 x12_2 x13_3 x14_3 false) else (Zc.j3 k3 l0 l1 a2 t326 t329 x11_2 x12_2 x13_3 x14_3 false))) else (if a2 = 3 then (if t334 = true then (Zc.j3 k3 l0 l1 a2 t326 t329 x11_2 x12_2 x13_3 x14_3 (!t337)) else (Zc.j3 k3 l0 l1 a2 t326 t329 x11_2 x12_2 x13_3 x14_3 false)) else (Zc.j3 k3 l0 l1 a2 t326 t329 x11_2 x12_2 x13_3 x14_3 false))))) = some r := H;have A57 := Zb.mk A570;clear A570;replace H := Option.bind_eq_some_iff.mp H;obtain ⟨t337,A580,H⟩ := H;replace H : (if a2 = 1 then (if t334 = true then (Zc.j3 k3 l0 l1 a2 t326 t329 x11_2 x12_2 x13_3 x14_3 true) else (if t337 = true then (Zc.j3 k3 l0 l1 a2 t326 t329 x11_2 x12_2 x13_3 x14_3 true) else (if a2 = 2 then (if a2 = 3 then (Zc.j3 k3 l0 l1 a2 t326 t329 x11_2 x12_2 x13_3 x14_3 false) else (Zc.j3 k3 l0 l1 a2 t326 t329 x11_2 x12_2 x13_3 x14_3 false)) else (if a2 = 3 then (Zc.j3 k3 l0 l1 a2 t326 t329 x11_2 x12_2 x13_3 x14_3 false) else (Zc.j3 k3 l0 l1 a2 t326 t329 x11_2 x12_2 x13_3 x14_3 false))))) else (if a2 = 2 then (if t334 = true then (if t337 = true then (Zc.j3 k3 l0 l1 a2 t326 t329 x11_2 x12_2 x13_3 x14_3 true) else (if a2 = 3 then (Zc.j3 k3 l0 l1 a2 t326 t329 x11_2 x12_2 x13_3 x14_3 (!t337)) else (Zc.j3 k3 l0 l1 a2 t326 t329 x11_2 x12_2 x13_3 x14_3 false))) else (if a2 = 3 then (Zc.j3 k3 l0 l1 a2 t326 t329 x11_2 x12_2 x13_3 x14_3 false) else (Zc.j3 k3 l0 l1 a2 t326 t329 x11_2 x12_2 x13_3 x14_3 false))) else (if a2 = 3 then (if t334 = true then (Zc.j3 k3 l0 l1 a2 t326 t329 x11_2 x12_2 x13_3 x14_3 (!t337)) else (Zc.j3 k3 l0 l1 a2 t326 t329 x11_2 x12_2 x13_3 x14_3 false)) else (Zc.j3 k3 l0 l1 a2 t326 t329 x11_2 x12_2 x13_3 x14_3 false)))) = some r := H;have A58 := Zb.mk A580;clear A580;have HC59 := Zb.mk H;clear H;obtain ⟨Ao60,co60,eo60⟩ := Kd.ZS HO_7.out;subst eo60
                     try go_wp2
                     have n0_ := Zb.mk (Kd.Zm HO_7.out);have n1_ := Zb.mk (Kd.Zm HO_8.out);have n2_ := Zb.mk (Kd.Xj HO_11.out);have n3_ := Zb.mk (Kd.Zm HO_13.out);have n4_ := Zb.mk (Zd HB.out);clear HO_7;clear HO_8;clear HO_11;clear HO_13;clear HB;have HO_7 := n0_;have HO_8 := n1_;have HO_11 := n2_;have HO_13 := n3_;have HB := n4_;clear n0_ n1_ n2_ n3_ n4_;have p332 : 0 ≤ (x14_3 : Int) := of_decide_eq_true (by first | (with_reducible assumption) | assumption);have q332 : x14_3 < (t326.length : Int) := of_decide_eq_true (by first | (with_reducible assumption) | assumption);obtain ⟨ad332,e332,hx332_0⟩ := Kd.XW (Kd.Z3 HO_7.out).2.2 x14_3 p332 q332
                     cases e332
                     replace p332 := eq_true p332;replace q332 := eq_true q332;have p333 : 0 ≤ (x12_2 : Int) := of_decide_eq_true (by first | (with_reducible assumption) | assumption);have q333 : x12_2 < (t329.length : Int) := of_decide_eq_true (by first | (with_reducible assumption) | assumption);obtain ⟨ad333,e333,hx333_0⟩ := Kd.XW (Kd.Z3 HO_8.out).2.2 x12_2 p333 q333
                     cases e333
                     replace p333 := eq_true p333;replace q333 := eq_true q333;have p335 : 0 ≤ (x14_3 : Int) := of_decide_eq_true (by first | (with_reducible assumption) | assumption);have q335 : x14_3 < (t326.length : Int) := of_decide_eq_true (by first | (with_reducible assumption) | assumption);obtain ⟨ad335,e335,hx335_0⟩ := Kd.XW (Kd.Z3 HO_7.out).2.2 x14_3 p335 q335
                     obtain rfl : ad332 = ad335 := (by injection e335)
                     replace p335 := eq_true p335;replace q335 := eq_true q335;have p336 : 0 ≤ (x12_2 : Int) := of_decide_eq_true (by first | (with_reducible assumption) | assumption);have q336 : x12_2 < (t329.length : Int) := of_decide_eq_true (by first | (with_reducible assumption) | assumption);obtain ⟨ad336,e336,hx336_0⟩ := Kd.XW (Kd.Z3 HO_8.out).2.2 x12_2 p336 q336
                     obtain rfl : ad333 = ad336 := (by injection e336)
                     replace p336 := eq_true p336;replace q336 := eq_true q336;refine Qn (n := 22) (S := fun w' => w'.cell? (ad332.add (x14_3).toNat) = some (.int .i64 (rd t326 x14_3)) ∧ w'.cell? (ad333.add (x12_2).toNat) = some (.int .i64 (rd t329 x12_2)) ∧ w'.cell? (ad332.add (x14_3).toNat) = some (.int .i64 (rd t326 x14_3)) ∧ w'.cell? (ad333.add (x12_2).toNat) = some (.int .i64 (rd t329 x12_2))) (ds := []) #[Z,Z,Z,Z,Z,Z,Z,Z,Z,Z,Z,Z,Z,Z,Z,Z,Z,Z,Z,Z,Z,Z] (by kernel_rfl) rfl rfl ⟨hx332_0,hx333_0,hx335_0,hx336_0⟩ (fun hHeld => ?_);refine XC Zc.tab19 Zc.bits19 (fun HT_ HW_ => ?_);generalize wr.drew = w61 at HO_7 HO_8 HO_11 HO_13 HB hx332_0 hx333_0 hx335_0 hx336_0 hHeld ⊢;refine pure_ (i := 0) (N := some 84) (v := ?_) (a' := ?_) #[U,Z,Z,Z,Z,Z,Z,Z,Z,Z,Z,Z,Z,Z,Z,Z,Z,Z,Z,Z,Z,Z] rfl rfl (Zs HT_.out (by kernel_rfl)) (fun _ _ _ h => h) (Or.inl ⟨by rfl,?_⟩) ?_ ?_;rotate_left
                     · intro w'
                       go_simp;with_reducible rfl
                     rotate_left
                     · simp only [Act.put,V9,VA,VB,i64_w,i32_w]
                       rfl
                     refine pure_ (i := 1) (N := some 85) (v := ?_) (a' := ?_) #[U,U,Z,Z,Z,Z,Z,Z,Z,Z,Z,Z,Z,Z,Z,Z,Z,Z,Z,Z,Z,Z] rfl rfl (Zs HT_.out (by kernel_rfl)) (fun _ _ _ h => h) (Or.inl ⟨by rfl,?_⟩) ?_ ?_;rotate_left
                     · intro w'
                       go_simp;with_reducible rfl
                     rotate_left
                     · simp only [Act.put,V9,VA,VB,i64_w,i32_w]
                       rfl
                     refine pure_ (i := 2) (N := some 86) (v := ?_) (a' := ?_) #[U,U,U,Z,Z,Z,Z,Z,Z,Z,Z,Z,Z,Z,Z,Z,Z,Z,Z,Z,Z,Z] rfl rfl (Zs HT_.out (by kernel_rfl)) (fun _ _ _ h => h) (Or.inl ⟨by rfl,?_⟩) ?_ ?_;rotate_left
                     · intro w'
                       go_simp;with_reducible rfl
                     rotate_left
                     · simp only [Act.put,V9,VA,VB,i64_w,i32_w]
                       rfl
                     refine pure_ (i := 3) (N := some 87) (v := ?_) (a' := ?_) #[U,U,U,U,Z,Z,Z,Z,Z,Z,Z,Z,Z,Z,Z,Z,Z,Z,Z,Z,Z,Z] rfl rfl (Zs HT_.out (by kernel_rfl)) (fun _ _ _ h => h) (Or.inl ⟨by rfl,?_⟩) ?_ ?_;rotate_left
                     · intro w'
                       go_simp;with_reducible rfl
                     rotate_left
                     · simp only [Act.put,V9,VA,VB,i64_w,i32_w]
                       rfl
                     refine pure_ (i := 5) (N := some 89) (v := ?_) (a' := ?_) #[U,U,U,U,Z,U,Z,Z,Z,Z,Z,Z,Z,Z,Z,Z,Z,Z,Z,Z,Z,Z] rfl rfl (Zs HT_.out (by kernel_rfl)) (fun _ _ _ h => h) (Or.inl ⟨by rfl,?_⟩) ?_ ?_;rotate_left
                     · intro w'
                       go_simp;with_reducible rfl
                     rotate_left
                     · simp only [Act.put,V9,VA,VB,i64_w,i32_w]
                       rfl
                     refine pure_ (i := 6) (N := some 90) (v := ?_) (a' := ?_) #[U,U,U,U,Z,U,U,Z,Z,Z,Z,Z,Z,Z,Z,Z,Z,Z,Z,Z,Z,Z] rfl rfl (Zs HT_.out (by kernel_rfl)) (fun _ _ _ h => h) (Or.inl ⟨by rfl,?_⟩) ?_ ?_;rotate_left
                     · intro w'
                       go_simp;with_reducible rfl
                     rotate_left
                     · simp only [Act.put,V9,VA,VB,i64_w,i32_w]
                       rfl
                     refine pure_ (i := 7) (N := some 91) (v := ?_) (a' := ?_) #[U,U,U,U,Z,U,U,U,Z,Z,Z,Z,Z,Z,Z,Z,Z,Z,Z,Z,Z,Z] rfl rfl (Zs HT_.out (by kernel_rfl)) (fun _ _ _ h => h) (Or.inl ⟨by rfl,?_⟩) ?_ ?_;rotate_left
                     · intro w'
                       go_simp;with_reducible rfl
                     rotate_left
                     · simp only [Act.put,V9,VA,VB,i64_w,i32_w]
                       rfl
                     refine pure_ (i := 10) (N := some 94) (v := ?_) (a' := ?_) #[U,U,U,U,Z,U,U,U,Z,Z,U,Z,Z,Z,Z,Z,Z,Z,Z,Z,Z,Z] rfl rfl (Zs HT_.out (by kernel_rfl)) (fun _ _ _ h => h) (Or.inl ⟨by rfl,?_⟩) ?_ ?_;rotate_left
                     · intro w'
                       go_simp;with_reducible rfl
                     rotate_left
                     · simp only [Act.put,V9,VA,VB,i64_w,i32_w]
                       rfl
                     refine pure_ (i := 11) (N := some 95) (v := ?_) (a' := ?_) #[U,U,U,U,Z,U,U,U,Z,Z,U,U,Z,Z,Z,Z,Z,Z,Z,Z,Z,Z] rfl rfl (Zs HT_.out (by kernel_rfl)) (fun _ _ _ h => h) (Or.inl ⟨by rfl,?_⟩) ?_ ?_;rotate_left
                     · intro w'
                       go_simp;with_reducible rfl
                     rotate_left
                     · simp only [Act.put,V9,VA,VB,i64_w,i32_w]
                       rfl
                     refine pure_ (i := 12) (N := some 96) (v := ?_) (a' := ?_) #[U,U,U,U,Z,U,U,U,Z,Z,U,U,U,Z,Z,Z,Z,Z,Z,Z,Z,Z] rfl rfl (Zs HT_.out (by kernel_rfl)) (fun _ _ _ h => h) (Or.inl ⟨by rfl,?_⟩) ?_ ?_;rotate_left
                     · intro w'
                       go_simp;with_reducible rfl
                     rotate_left
                     · simp only [Act.put,V9,VA,VB,i64_w,i32_w]
                       rfl
                     refine pure_ (i := 13) (N := some 97) (v := ?_) (a' := ?_) #[U,U,U,U,Z,U,U,U,Z,Z,U,U,U,U,Z,Z,Z,Z,Z,Z,Z,Z] rfl rfl (Zs HT_.out (by kernel_rfl)) (fun _ _ _ h => h) (Or.inl ⟨by rfl,?_⟩) ?_ ?_;rotate_left
                     · intro w'
                       go_simp;with_reducible rfl
                     rotate_left
                     · simp only [Act.put,V9,VA,VB,i64_w,i32_w]
                       rfl
                     refine pure_ (i := 15) (N := some 99) (v := ?_) (a' := ?_) #[U,U,U,U,Z,U,U,U,Z,Z,U,U,U,U,Z,U,Z,Z,Z,Z,Z,Z] rfl rfl (Zs HT_.out (by kernel_rfl)) (fun _ _ _ h => h) (Or.inl ⟨by rfl,?_⟩) ?_ ?_;rotate_left
                     · intro w'
                       go_simp;with_reducible rfl
                     rotate_left
                     · simp only [Act.put,V9,VA,VB,i64_w,i32_w]
                       rfl
                     refine pure_ (i := 16) (N := some 100) (v := ?_) (a' := ?_) #[U,U,U,U,Z,U,U,U,Z,Z,U,U,U,U,Z,U,U,Z,Z,Z,Z,Z] rfl rfl (Zs HT_.out (by kernel_rfl)) (fun _ _ _ h => h) (Or.inl ⟨by rfl,?_⟩) ?_ ?_;rotate_left
                     · intro w'
                       go_simp;with_reducible rfl
                     rotate_left
                     · simp only [Act.put,V9,VA,VB,i64_w,i32_w]
                       rfl
                     refine pure_ (i := 17) (N := some 101) (v := ?_) (a' := ?_) #[U,U,U,U,Z,U,U,U,Z,Z,U,U,U,U,Z,U,U,U,Z,Z,Z,Z] rfl rfl (Zs HT_.out (by kernel_rfl)) (fun _ _ _ h => h) (Or.inl ⟨by rfl,?_⟩) ?_ ?_;rotate_left
                     · intro w'
                       go_simp;with_reducible rfl
                     rotate_left
                     · simp only [Act.put,V9,VA,VB,i64_w,i32_w]
                       rfl
                     refine take_ (i := 4) (N := some 88) (v := ?_) (a' := ?_) #[U,U,U,U,U,U,U,U,Z,Z,U,U,U,U,Z,U,U,U,Z,Z,Z,Z] rfl rfl (ZQ HT_.out HW_.out (by kernel_rfl)) (fun _ _ _ h => h) (Or.inl ⟨by rfl,?_⟩) hHeld ?_ ?_;rotate_left
                     · rintro w' ⟨s0,s1,s2,s3⟩
                       go_simp;with_reducible rfl
                     rotate_left
                     · simp only [Act.put,V9,VA,VB,i64_w,i32_w]
                       rfl
                     refine take_ (i := 8) (N := some 92) (v := ?_) (a' := ?_) #[U,U,U,U,U,U,U,U,U,Z,U,U,U,U,Z,U,U,U,Z,Z,Z,Z] rfl rfl (ZQ HT_.out HW_.out (by kernel_rfl)) (fun _ _ _ h => h) (Or.inl ⟨by rfl,?_⟩) hHeld ?_ ?_;rotate_left
                     · rintro w' ⟨s0,s1,s2,s3⟩
                       go_simp;with_reducible rfl
                     rotate_left
                     · simp only [Act.put,V9,VA,VB,i64_w,i32_w]
                       rfl
                     refine take_ (i := 14) (N := some 98) (v := ?_) (a' := ?_) #[U,U,U,U,U,U,U,U,U,Z,U,U,U,U,U,U,U,U,Z,Z,Z,Z] rfl rfl (ZQ HT_.out HW_.out (by kernel_rfl)) (fun _ _ _ h => h) (Or.inl ⟨by rfl,?_⟩) hHeld ?_ ?_;rotate_left
                     · rintro w' ⟨s0,s1,s2,s3⟩
                       go_simp;with_reducible rfl
                     rotate_left
                     · simp only [Act.put,V9,VA,VB,i64_w,i32_w]
                       rfl
                     refine take_ (i := 18) (N := some 102) (v := ?_) (a' := ?_) #[U,U,U,U,U,U,U,U,U,Z,U,U,U,U,U,U,U,U,U,Z,Z,Z] rfl rfl (ZQ HT_.out HW_.out (by kernel_rfl)) (fun _ _ _ h => h) (Or.inl ⟨by rfl,?_⟩) hHeld ?_ ?_;rotate_left
                     · rintro w' ⟨s0,s1,s2,s3⟩
                       go_simp;with_reducible rfl
                     rotate_left
                     · simp only [Act.put,V9,VA,VB,i64_w,i32_w]
                       rfl
                     refine one_ (i := 9) (N := some 93) #[U,U,U,U,U,U,U,U,U,U,U,U,U,U,U,U,U,U,U,Z,Z,Z] rfl rfl (XB HT_.out (by kernel_rfl)) (by decide) (fun K hK => ?_);refine goes_ Try.func78 (by kernel_rfl) rfl #[.slice A0 l0.length c0,.int .i64 (rd t326 x14_3),.int .i64 (rd t329 x12_2)] (by rfl) rfl rfl (by (try simp only [List.map_toArray,List.map_cons,List.map_nil]);first | done | rfl | (simp only [List.length_drop,List.length_take];rfl)) ?_
                     with_reducible refine (Z0.calls k3 _ _ l0 (rd t326 x14_3) (rd t329 x12_2) t334 _ ?side1 ?side2 A57.out).mono ?_
                     (case side1 => repeat (first | exact (Kd.Z5 HR0.out HB.out) | (with_reducible refine Kd.Z9 ?_ _) | (with_reducible refine Kd.ZA ?_ _) | (with_reducible refine Kd.ZO ?_)))
                     (case side2 => exact HC0.out)
                     rintro e w' ⟨rfl,⟨nd,rfl⟩⟩;refine ⟨_,rfl,?_⟩;refine hK.out _ _ ⟨hHeld.1,hHeld.2.1,hHeld.2.2.1,hHeld.2.2.2⟩ (fun hHeld => ?_);clear hK K;refine norm_ (a' := ?_) ?_ ?_;rotate_left
                     · show Act.put _ (some 93) _ = _
                       simp only [Act.put,V9,VA,VB,i64_w,i32_w];rfl
                     refine one_ (i := 19) (N := some 103) #[U,U,U,U,U,U,U,U,U,U,U,U,U,U,U,U,U,U,U,U,Z,Z] rfl rfl (XB HT_.out (by kernel_rfl)) (by decide) (fun K hK => ?_);refine goes_ Try.func78 (by kernel_rfl) rfl #[.slice A1 l1.length c1,.int .i64 (rd t326 x14_3),.int .i64 (rd t329 x12_2)] (by rfl) rfl rfl (by (try simp only [List.map_toArray,List.map_cons,List.map_nil]);first | done | rfl | (simp only [List.length_drop,List.length_take];rfl)) ?_
                     with_reducible refine (Z0.calls k3 _ _ l1 (rd t326 x14_3) (rd t329 x12_2) t337 _ ?side1 ?side2 A58.out).mono ?_
                     (case side1 => repeat (first | exact (Kd.Z5 HR1.out (by repeat (first | (with_reducible first | exact HB.out | apply Zf | apply Za | apply Zd) | exact HB.out))) | (with_reducible refine Kd.Z9 ?_ _) | (with_reducible refine Kd.ZA ?_ _) | (with_reducible refine Kd.ZO ?_)))
                     (case side2 => exact HC1.out)
                     rintro e w' ⟨rfl,⟨nd,rfl⟩⟩;refine ⟨_,rfl,?_⟩;refine hK.out _ _ ⟨hHeld.1,hHeld.2.1,hHeld.2.2.1,hHeld.2.2.2⟩ (fun hHeld => ?_);clear hK K;refine norm_ (a' := ?_) ?_ ?_;rotate_left
                     · show Act.put _ (some 103) _ = _
                       simp only [Act.put,V9,VA,VB,i64_w,i32_w];rfl
                     refine pure_ (i := 20) (N := some 15) (v := ?_) (a' := ?_) #[U,U,U,U,U,U,U,U,U,U,U,U,U,U,U,U,U,U,U,U,U,Z] rfl rfl (Zs HT_.out (by kernel_rfl)) (fun _ _ _ h => h) (Or.inl ⟨by rfl,?_⟩) ?_ ?_;rotate_left
                     · intro w'
                       go_simp;with_reducible rfl
                     rotate_left
                     · simp only [Act.put,V9,VA,VB,i64_w,i32_w]
                       rfl
                     refine pure_ (i := 21) (N := some 16) (v := ?_) (a' := ?_) #[U,U,U,U,U,U,U,U,U,U,U,U,U,U,U,U,U,U,U,U,U,U] rfl rfl (Zs HT_.out (by kernel_rfl)) (fun _ _ _ h => h) (Or.inl ⟨by rfl,?_⟩) ?_ ?_;rotate_left
                     · intro w'
                       go_simp;with_reducible rfl
                     rotate_left
                     · simp only [Act.put,V9,VA,VB,i64_w,i32_w]
                       rfl
                     refine done_ (XV HT_.out (by kernel_rfl)) ?_
                     go_upto_region 20 with (fail)
                     go_cut [132] (fun v132 wc => ∃ (kq : Nat) (x132_58 : Bool),v132 = .bool x132_58 ∧ Zb (Zc.j3 kq l0 l1 a2 t326 t329 x11_2 x12_2 x13_3 x14_3 x132_58 = some r) ∧ Zb (kq ≤ k3) ∧ Zb (Kd.R (Kd.int .i64) 3 wc w.heap.size (fun k_ => some k_ ≠ ((.slice (some ad333) t329.length co51) : Value).ownBlock) (.slice (some ad332) t326.length co60) t326) ∧ Zb (Kd.R (Kd.int .i64) 3 wc w.heap.size (fun k_ => some k_ ≠ ((.slice (some ad332) t326.length co60) : Value).ownBlock) (.slice (some ad333) t329.length co51) t329) ∧ Zb (Kd.S (Kd.slice 43 k43) 22 wc w.heap.size (fun k_ => some k_ ≠ (u13 : Value).ownBlock) u11 x11_2) ∧ Zb (Kd.R k43 43 wc w.heap.size (fun _ => True) u13 x13_3) ∧ Zb (Below w.heap.size w wc))
                     case first => as_aux_lemma =>
                      have H := HC59.out;clear HC59
                      by_cases c62 : a2 = 1
                      · rw [if_pos c62] at H
                        have c62b0 : (a2 == 1) = true := beq_iff_eq.mpr c62;have c62b1 : (a2 != 1) = false := bne_eq_false_iff_eq.mpr c62;clear c62
                        (first | rw [c62b0] | (simp only [i64_w,i32_w];rw [c62b0]) | skip)
                        by_cases c63 : t334 = true
                        · subst c63
                          have H1 : (Zc.j3 k3 l0 l1 a2 t326 t329 x11_2 x12_2 x13_3 x14_3 true) = some r := by rw [if_pos rfl] at H;exact H
                          clear H;have H := H1;clear H1;have H' := Zb.mk H;clear H
                          go_wp2
                          go_meet
                          case rel => exact ⟨_,(true),(by first | rfl | (simp;done) | (simp [*];done)),H',⟨by have := HK1.out;have := HK2.out;have := HK3.out;first | omega | exact Nat.le_refl _⟩,⟨by (with_reducible repeat (first | apply Kd.Zj | apply Kd.Zi | apply Kd.Zm));exact HO_7.out⟩,⟨by (with_reducible repeat (first | apply Kd.Zj | apply Kd.Zi | apply Kd.Zm));exact HO_8.out⟩,⟨by (with_reducible repeat (first | apply Kd.Xe | apply Kd.Xf | apply Kd.Xj));exact HO_11.out⟩,⟨by (with_reducible repeat (first | apply Kd.Zj | apply Kd.Zi | apply Kd.Zm));exact HO_13.out⟩,⟨by repeat (first | (with_reducible first | exact HB.out | apply Zf | apply Za | apply Zd) | exact HB.out)⟩⟩
                        · replace c63 := Bool.eq_false_iff.mpr c63
                          subst c63
                          have H1 : (if t337 = true then (Zc.j3 k3 l0 l1 a2 t326 t329 x11_2 x12_2 x13_3 x14_3 true) else (if a2 = 2 then (if a2 = 3 then (Zc.j3 k3 l0 l1 a2 t326 t329 x11_2 x12_2 x13_3 x14_3 false) else (Zc.j3 k3 l0 l1 a2 t326 t329 x11_2 x12_2 x13_3 x14_3 false)) else (if a2 = 3 then (Zc.j3 k3 l0 l1 a2 t326 t329 x11_2 x12_2 x13_3 x14_3 false) else (Zc.j3 k3 l0 l1 a2 t326 t329 x11_2 x12_2 x13_3 x14_3 false)))) = some r := by rw [if_neg (show ¬ (false = true) by decide)] at H;exact H
                          clear H;have H := H1;clear H1
                          by_cases c64 : t337 = true
                          · subst c64
                            have H1 : (Zc.j3 k3 l0 l1 a2 t326 t329 x11_2 x12_2 x13_3 x14_3 true) = some r := by rw [if_pos rfl] at H;exact H
                            clear H;have H := H1;clear H1;have H' := Zb.mk H;clear H
                            go_wp2
                            go_meet
                            case rel => exact ⟨_,(true),(by first | rfl | (simp;done) | (simp [*];done)),H',⟨by have := HK1.out;have := HK2.out;have := HK3.out;first | omega | exact Nat.le_refl _⟩,⟨by (with_reducible repeat (first | apply Kd.Zj | apply Kd.Zi | apply Kd.Zm));exact HO_7.out⟩,⟨by (with_reducible repeat (first | apply Kd.Zj | apply Kd.Zi | apply Kd.Zm));exact HO_8.out⟩,⟨by (with_reducible repeat (first | apply Kd.Xe | apply Kd.Xf | apply Kd.Xj));exact HO_11.out⟩,⟨by (with_reducible repeat (first | apply Kd.Zj | apply Kd.Zi | apply Kd.Zm));exact HO_13.out⟩,⟨by repeat (first | (with_reducible first | exact HB.out | apply Zf | apply Za | apply Zd) | exact HB.out)⟩⟩
                          · replace c64 := Bool.eq_false_iff.mpr c64
                            subst c64
                            have H1 : (if a2 = 2 then (if a2 = 3 then (Zc.j3 k3 l0 l1 a2 t326 t329 x11_2 x12_2 x13_3 x14_3 false) else (Zc.j3 k3 l0 l1 a2 t326 t329 x11_2 x12_2 x13_3 x14_3 false)) else (if a2 = 3 then (Zc.j3 k3 l0 l1 a2 t326 t329 x11_2 x12_2 x13_3 x14_3 false) else (Zc.j3 k3 l0 l1 a2 t326 t329 x11_2 x12_2 x13_3 x14_3 false))) = some r := by rw [if_neg (show ¬ (false = true) by decide)] at H;exact H
                            clear H;have H := H1;clear H1
                            by_cases c65 : a2 = 2
                            · rw [if_pos c65] at H
                              have c65b0 : (a2 == 2) = true := beq_iff_eq.mpr c65;have c65b1 : (a2 != 2) = false := bne_eq_false_iff_eq.mpr c65;clear c65
                              by_cases c66 : a2 = 3
                              · rw [if_pos c66] at H
                                have c66b0 : (a2 == 3) = true := beq_iff_eq.mpr c66;have c66b1 : (a2 != 3) = false := bne_eq_false_iff_eq.mpr c66;clear c66;have H' := Zb.mk H;clear H
                                go_wp2
                                go_meet
                                case rel => exact ⟨_,(false),(by first | rfl | (simp;done) | (simp [*];done)),H',⟨by have := HK1.out;have := HK2.out;have := HK3.out;first | omega | exact Nat.le_refl _⟩,⟨by (with_reducible repeat (first | apply Kd.Zj | apply Kd.Zi | apply Kd.Zm));exact HO_7.out⟩,⟨by (with_reducible repeat (first | apply Kd.Zj | apply Kd.Zi | apply Kd.Zm));exact HO_8.out⟩,⟨by (with_reducible repeat (first | apply Kd.Xe | apply Kd.Xf | apply Kd.Xj));exact HO_11.out⟩,⟨by (with_reducible repeat (first | apply Kd.Zj | apply Kd.Zi | apply Kd.Zm));exact HO_13.out⟩,⟨by repeat (first | (with_reducible first | exact HB.out | apply Zf | apply Za | apply Zd) | exact HB.out)⟩⟩
                              · rw [if_neg c66] at H
                                have c66b0 : (a2 == 3) = false := beq_eq_false_iff_ne.mpr c66;have c66b1 : (a2 != 3) = true := bne_iff_ne.mpr c66;have H' := Zb.mk H;clear H
                                go_wp2
                                go_meet
                                case rel => exact ⟨_,(false),(by first | rfl | (simp;done) | (simp [*];done)),H',⟨by have := HK1.out;have := HK2.out;have := HK3.out;first | omega | exact Nat.le_refl _⟩,⟨by (with_reducible repeat (first | apply Kd.Zj | apply Kd.Zi | apply Kd.Zm));exact HO_7.out⟩,⟨by (with_reducible repeat (first | apply Kd.Zj | apply Kd.Zi | apply Kd.Zm));exact HO_8.out⟩,⟨by (with_reducible repeat (first | apply Kd.Xe | apply Kd.Xf | apply Kd.Xj));exact HO_11.out⟩,⟨by (with_reducible repeat (first | apply Kd.Zj | apply Kd.Zi | apply Kd.Zm));exact HO_13.out⟩,⟨by repeat (first | (with_reducible first | exact HB.out | apply Zf | apply Za | apply Zd) | exact HB.out)⟩⟩
                            · rw [if_neg c65] at H
                              have c65b0 : (a2 == 2) = false := beq_eq_false_iff_ne.mpr c65;have c65b1 : (a2 != 2) = true := bne_iff_ne.mpr c65
                              by_cases c67 : a2 = 3
                              · rw [if_pos c67] at H
                                have c67b0 : (a2 == 3) = true := beq_iff_eq.mpr c67;have c67b1 : (a2 != 3) = false := bne_eq_false_iff_eq.mpr c67;clear c67;have H' := Zb.mk H;clear H
                                go_wp2
                                go_meet
                                case rel => exact ⟨_,(false),(by first | rfl | (simp;done) | (simp [*];done)),H',⟨by have := HK1.out;have := HK2.out;have := HK3.out;first | omega | exact Nat.le_refl _⟩,⟨by (with_reducible repeat (first | apply Kd.Zj | apply Kd.Zi | apply Kd.Zm));exact HO_7.out⟩,⟨by (with_reducible repeat (first | apply Kd.Zj | apply Kd.Zi | apply Kd.Zm));exact HO_8.out⟩,⟨by (with_reducible repeat (first | apply Kd.Xe | apply Kd.Xf | apply Kd.Xj));exact HO_11.out⟩,⟨by (with_reducible repeat (first | apply Kd.Zj | apply Kd.Zi | apply Kd.Zm));exact HO_13.out⟩,⟨by repeat (first | (with_reducible first | exact HB.out | apply Zf | apply Za | apply Zd) | exact HB.out)⟩⟩
                              · rw [if_neg c67] at H
                                have c67b0 : (a2 == 3) = false := beq_eq_false_iff_ne.mpr c67;have c67b1 : (a2 != 3) = true := bne_iff_ne.mpr c67;have H' := Zb.mk H;clear H
                                go_wp2
                                go_meet
                                case rel => exact ⟨_,(false),(by first | rfl | (simp;done) | (simp [*];done)),H',⟨by have := HK1.out;have := HK2.out;have := HK3.out;first | omega | exact Nat.le_refl _⟩,⟨by (with_reducible repeat (first | apply Kd.Zj | apply Kd.Zi | apply Kd.Zm));exact HO_7.out⟩,⟨by (with_reducible repeat (first | apply Kd.Zj | apply Kd.Zi | apply Kd.Zm));exact HO_8.out⟩,⟨by (with_reducible repeat (first | apply Kd.Xe | apply Kd.Xf | apply Kd.Xj));exact HO_11.out⟩,⟨by (with_reducible repeat (first | apply Kd.Zj | apply Kd.Zi | apply Kd.Zm));exact HO_13.out⟩,⟨by repeat (first | (with_reducible first | exact HB.out | apply Zf | apply Za | apply Zd) | exact HB.out)⟩⟩
                      · rw [if_neg c62] at H
                        have c62b0 : (a2 == 1) = false := beq_eq_false_iff_ne.mpr c62;have c62b1 : (a2 != 1) = true := bne_iff_ne.mpr c62
                        (first | rw [c62b0] | (simp only [i64_w,i32_w];rw [c62b0]) | skip)
                        by_cases c68 : a2 = 2
                        · rw [if_pos c68] at H
                          have c68b0 : (a2 == 2) = true := beq_iff_eq.mpr c68;have c68b1 : (a2 != 2) = false := bne_eq_false_iff_eq.mpr c68;clear c68
                          by_cases c69 : t334 = true
                          · subst c69
                            have H1 : (if t337 = true then (Zc.j3 k3 l0 l1 a2 t326 t329 x11_2 x12_2 x13_3 x14_3 true) else (if a2 = 3 then (Zc.j3 k3 l0 l1 a2 t326 t329 x11_2 x12_2 x13_3 x14_3 (!t337)) else (Zc.j3 k3 l0 l1 a2 t326 t329 x11_2 x12_2 x13_3 x14_3 false))) = some r := by rw [if_pos rfl] at H;exact H
                            clear H;have H := H1;clear H1
                            by_cases c70 : t337 = true
                            · subst c70
                              have H1 : (Zc.j3 k3 l0 l1 a2 t326 t329 x11_2 x12_2 x13_3 x14_3 true) = some r := by rw [if_pos rfl] at H;exact H
                              clear H;have H := H1;clear H1;have H' := Zb.mk H;clear H
                              go_wp2
                              go_meet
                              case rel => exact ⟨_,(true),(by first | rfl | (simp;done) | (simp [*];done)),H',⟨by have := HK1.out;have := HK2.out;have := HK3.out;first | omega | exact Nat.le_refl _⟩,⟨by (with_reducible repeat (first | apply Kd.Zj | apply Kd.Zi | apply Kd.Zm));exact HO_7.out⟩,⟨by (with_reducible repeat (first | apply Kd.Zj | apply Kd.Zi | apply Kd.Zm));exact HO_8.out⟩,⟨by (with_reducible repeat (first | apply Kd.Xe | apply Kd.Xf | apply Kd.Xj));exact HO_11.out⟩,⟨by (with_reducible repeat (first | apply Kd.Zj | apply Kd.Zi | apply Kd.Zm));exact HO_13.out⟩,⟨by repeat (first | (with_reducible first | exact HB.out | apply Zf | apply Za | apply Zd) | exact HB.out)⟩⟩
                            · replace c70 := Bool.eq_false_iff.mpr c70
                              subst c70
                              have H1 : (if a2 = 3 then (Zc.j3 k3 l0 l1 a2 t326 t329 x11_2 x12_2 x13_3 x14_3 (!false)) else (Zc.j3 k3 l0 l1 a2 t326 t329 x11_2 x12_2 x13_3 x14_3 false)) = some r := by rw [if_neg (show ¬ (false = true) by decide)] at H;exact H
                              clear H;have H := H1;clear H1
                              by_cases c71 : a2 = 3
                              · rw [if_pos c71] at H
                                have c71b0 : (a2 == 3) = true := beq_iff_eq.mpr c71;have c71b1 : (a2 != 3) = false := bne_eq_false_iff_eq.mpr c71;clear c71;have H' := Zb.mk H;clear H
                                go_wp2
                                go_meet
                                case rel => exact ⟨_,(!false),(by first | rfl | (simp;done) | (simp [*];done)),H',⟨by have := HK1.out;have := HK2.out;have := HK3.out;first | omega | exact Nat.le_refl _⟩,⟨by (with_reducible repeat (first | apply Kd.Zj | apply Kd.Zi | apply Kd.Zm));exact HO_7.out⟩,⟨by (with_reducible repeat (first | apply Kd.Zj | apply Kd.Zi | apply Kd.Zm));exact HO_8.out⟩,⟨by (with_reducible repeat (first | apply Kd.Xe | apply Kd.Xf | apply Kd.Xj));exact HO_11.out⟩,⟨by (with_reducible repeat (first | apply Kd.Zj | apply Kd.Zi | apply Kd.Zm));exact HO_13.out⟩,⟨by repeat (first | (with_reducible first | exact HB.out | apply Zf | apply Za | apply Zd) | exact HB.out)⟩⟩
                              · rw [if_neg c71] at H
                                have c71b0 : (a2 == 3) = false := beq_eq_false_iff_ne.mpr c71;have c71b1 : (a2 != 3) = true := bne_iff_ne.mpr c71;have H' := Zb.mk H;clear H
                                go_wp2
                                go_meet
                                case rel => exact ⟨_,(false),(by first | rfl | (simp;done) | (simp [*];done)),H',⟨by have := HK1.out;have := HK2.out;have := HK3.out;first | omega | exact Nat.le_refl _⟩,⟨by (with_reducible repeat (first | apply Kd.Zj | apply Kd.Zi | apply Kd.Zm));exact HO_7.out⟩,⟨by (with_reducible repeat (first | apply Kd.Zj | apply Kd.Zi | apply Kd.Zm));exact HO_8.out⟩,⟨by (with_reducible repeat (first | apply Kd.Xe | apply Kd.Xf | apply Kd.Xj));exact HO_11.out⟩,⟨by (with_reducible repeat (first | apply Kd.Zj | apply Kd.Zi | apply Kd.Zm));exact HO_13.out⟩,⟨by repeat (first | (with_reducible first | exact HB.out | apply Zf | apply Za | apply Zd) | exact HB.out)⟩⟩
                          · replace c69 := Bool.eq_false_iff.mpr c69
                            subst c69
                            have H1 : (if a2 = 3 then (Zc.j3 k3 l0 l1 a2 t326 t329 x11_2 x12_2 x13_3 x14_3 false) else (Zc.j3 k3 l0 l1 a2 t326 t329 x11_2 x12_2 x13_3 x14_3 false)) = some r := by rw [if_neg (show ¬ (false = true) by decide)] at H;exact H
                            clear H;have H := H1;clear H1
                            by_cases c72 : a2 = 3
                            · rw [if_pos c72] at H
                              have c72b0 : (a2 == 3) = true := beq_iff_eq.mpr c72;have c72b1 : (a2 != 3) = false := bne_eq_false_iff_eq.mpr c72;clear c72;have H' := Zb.mk H;clear H
                              go_wp2
                              go_meet
                              case rel => exact ⟨_,(false),(by first | rfl | (simp;done) | (simp [*];done)),H',⟨by have := HK1.out;have := HK2.out;have := HK3.out;first | omega | exact Nat.le_refl _⟩,⟨by (with_reducible repeat (first | apply Kd.Zj | apply Kd.Zi | apply Kd.Zm));exact HO_7.out⟩,⟨by (with_reducible repeat (first | apply Kd.Zj | apply Kd.Zi | apply Kd.Zm));exact HO_8.out⟩,⟨by (with_reducible repeat (first | apply Kd.Xe | apply Kd.Xf | apply Kd.Xj));exact HO_11.out⟩,⟨by (with_reducible repeat (first | apply Kd.Zj | apply Kd.Zi | apply Kd.Zm));exact HO_13.out⟩,⟨by repeat (first | (with_reducible first | exact HB.out | apply Zf | apply Za | apply Zd) | exact HB.out)⟩⟩
                            · rw [if_neg c72] at H
                              have c72b0 : (a2 == 3) = false := beq_eq_false_iff_ne.mpr c72;have c72b1 : (a2 != 3) = true := bne_iff_ne.mpr c72;have H' := Zb.mk H;clear H
                              go_wp2
                              go_meet
                              case rel => exact ⟨_,(false),(by first | rfl | (simp;done) | (simp [*];done)),H',⟨by have := HK1.out;have := HK2.out;have := HK3.out;first | omega | exact Nat.le_refl _⟩,⟨by (with_reducible repeat (first | apply Kd.Zj | apply Kd.Zi | apply Kd.Zm));exact HO_7.out⟩,⟨by (with_reducible repeat (first | apply Kd.Zj | apply Kd.Zi | apply Kd.Zm));exact HO_8.out⟩,⟨by (with_reducible repeat (first | apply Kd.Xe | apply Kd.Xf | apply Kd.Xj));exact HO_11.out⟩,⟨by (with_reducible repeat (first | apply Kd.Zj | apply Kd.Zi | apply Kd.Zm));exact HO_13.out⟩,⟨by repeat (first | (with_reducible first | exact HB.out | apply Zf | apply Za | apply Zd) | exact HB.out)⟩⟩
                        · rw [if_neg c68] at H
                          have c68b0 : (a2 == 2) = false := beq_eq_false_iff_ne.mpr c68;have c68b1 : (a2 != 2) = true := bne_iff_ne.mpr c68
                          by_cases c73 : a2 = 3
                          · rw [if_pos c73] at H
                            have c73b0 : (a2 == 3) = true := beq_iff_eq.mpr c73;have c73b1 : (a2 != 3) = false := bne_eq_false_iff_eq.mpr c73;clear c73
                            by_cases c74 : t334 = true
                            · subst c74
                              have H1 : (Zc.j3 k3 l0 l1 a2 t326 t329 x11_2 x12_2 x13_3 x14_3 (!t337)) = some r := by rw [if_pos rfl] at H;exact H
                              clear H;have H := H1;clear H1;have H' := Zb.mk H;clear H
                              go_wp2
                              go_meet
                              case rel => exact ⟨_,(!t337),(by first | rfl | (simp;done) | (simp [*];done)),H',⟨by have := HK1.out;have := HK2.out;have := HK3.out;first | omega | exact Nat.le_refl _⟩,⟨by (with_reducible repeat (first | apply Kd.Zj | apply Kd.Zi | apply Kd.Zm));exact HO_7.out⟩,⟨by (with_reducible repeat (first | apply Kd.Zj | apply Kd.Zi | apply Kd.Zm));exact HO_8.out⟩,⟨by (with_reducible repeat (first | apply Kd.Xe | apply Kd.Xf | apply Kd.Xj));exact HO_11.out⟩,⟨by (with_reducible repeat (first | apply Kd.Zj | apply Kd.Zi | apply Kd.Zm));exact HO_13.out⟩,⟨by repeat (first | (with_reducible first | exact HB.out | apply Zf | apply Za | apply Zd) | exact HB.out)⟩⟩
                            · replace c74 := Bool.eq_false_iff.mpr c74
                              subst c74
                              have H1 : (Zc.j3 k3 l0 l1 a2 t326 t329 x11_2 x12_2 x13_3 x14_3 false) = some r := by rw [if_neg (show ¬ (false = true) by decide)] at H;exact H
                              clear H;have H := H1;clear H1;have H' := Zb.mk H;clear H
                              go_wp2
                              go_meet
                              case rel => exact ⟨_,(false),(by first | rfl | (simp;done) | (simp [*];done)),H',⟨by have := HK1.out;have := HK2.out;have := HK3.out;first | omega | exact Nat.le_refl _⟩,⟨by (with_reducible repeat (first | apply Kd.Zj | apply Kd.Zi | apply Kd.Zm));exact HO_7.out⟩,⟨by (with_reducible repeat (first | apply Kd.Zj | apply Kd.Zi | apply Kd.Zm));exact HO_8.out⟩,⟨by (with_reducible repeat (first | apply Kd.Xe | apply Kd.Xf | apply Kd.Xj));exact HO_11.out⟩,⟨by (with_reducible repeat (first | apply Kd.Zj | apply Kd.Zi | apply Kd.Zm));exact HO_13.out⟩,⟨by repeat (first | (with_reducible first | exact HB.out | apply Zf | apply Za | apply Zd) | exact HB.out)⟩⟩
                          · rw [if_neg c73] at H
                            have c73b0 : (a2 == 3) = false := beq_eq_false_iff_ne.mpr c73;have c73b1 : (a2 != 3) = true := bne_iff_ne.mpr c73;have H' := Zb.mk H;clear H
                            go_wp2
                            go_meet
                            case rel => exact ⟨_,(false),(by first | rfl | (simp;done) | (simp [*];done)),H',⟨by have := HK1.out;have := HK2.out;have := HK3.out;first | omega | exact Nat.le_refl _⟩,⟨by (with_reducible repeat (first | apply Kd.Zj | apply Kd.Zi | apply Kd.Zm));exact HO_7.out⟩,⟨by (with_reducible repeat (first | apply Kd.Zj | apply Kd.Zi | apply Kd.Zm));exact HO_8.out⟩,⟨by (with_reducible repeat (first | apply Kd.Xe | apply Kd.Xf | apply Kd.Xj));exact HO_11.out⟩,⟨by (with_reducible repeat (first | apply Kd.Zj | apply Kd.Zi | apply Kd.Zm));exact HO_13.out⟩,⟨by repeat (first | (with_reducible first | exact HB.out | apply Zf | apply Za | apply Zd) | exact HB.out)⟩⟩
                     case rest => as_aux_lemma =>
                      clear HC59
                      (try clear c1); (try clear c2); (try clear p2); (try clear p3); (try clear q3); (try clear hx3); (try clear c4); (try clear c4b0); (try clear c5); (try clear c5b0); (try clear c6); (try clear p6); (try clear c7); (try clear c8); (try clear c11); (try clear c25); (try clear c25b0); (try clear c26); (try clear c26b0); (try clear c27); (try clear c28); (try clear p31); (try clear q31); (try clear hx31); (try clear p33); (try clear q33); (try clear hx33); (try clear c50); (try clear c50b0); (try clear c52); (try clear c52b0); (try clear c53); (try clear c53b0); (try clear c54); (try clear c54b0); (try clear c55); (try clear c55b0); (try clear c56); (try clear c56b0); (try clear c62); (try clear c62b0); (try clear c62b1); (try clear c63); (try clear c64); (try clear p64); (try clear c65); (try clear c65b0); (try clear c65b1); (try clear c66); (try clear c66b0); (try clear c66b1); (try clear c67); (try clear c67b0); (try clear c67b1); (try clear c68); (try clear c68b0); (try clear c68b1); (try clear c69); (try clear c70); (try clear c71); (try clear c71b0); (try clear c71b1); (try clear c72); (try clear c72b0); (try clear c72b1); (try clear c73); (try clear c73b0); (try clear c73b1); (try clear c74); (try clear hcz30_0); (try clear hcz30_1); (try clear hcz30_2); (try clear hcz30_3); (try clear hfz30_0); (try clear hfz30_1); (try clear hfz30_2); (try clear hfz30_3); (try clear hx313_0); (try clear hx313_1); (try clear hx313_2); (try clear hx313_3); (try clear hx332_0); (try clear hx333_0); (try clear hx335_0); (try clear hx336_0); (try clear p2); (try clear p3); (try clear p31); (try clear p313); (try clear p332); (try clear p333); (try clear p335); (try clear p336); (try clear p6); (try clear q3); (try clear q31); (try clear q313); (try clear q332); (try clear q333); (try clear q335); (try clear q336)
                      obtain ⟨kq,x132_58,rfl,HA,HJ58,HO_7,HO_8,HO_11,HO_13,HB⟩ := hcut
                      cases kq with
                      | zero => exact absurd HA.out (by simp [Zc.j3])
                      | succ kj58 =>
                       have H := HA.out;clear HA;simp only [Zc.j3] at H
                       by_cases c75 : x132_58 = true
                       · subst c75
                         have H1 : (if 0 ≤ x14_3 then (if x14_3 < (t326.length : Int) then (if 0 ≤ x12_2 then (if x12_2 < (t329.length : Int) then (if 0 ≤ (wrap64 (x14_3 + 1)) then (if (wrap64 (x14_3 + 1)) < (t326.length : Int) then (if 0 ≤ (wrap64 (x12_2 + 1)) then (if (wrap64 (x12_2 + 1)) < (t329.length : Int) then (if x13_3.length < 4398046511104 then (Zc.l2 kj58 l0 l1 a2 t326 t329 x11_2 x12_2 (x13_3 ++ [(⟨rd t326 x14_3,rd t329 x12_2,wrap64 ((rd t326 (wrap64 (x14_3 + 1))) - (rd t326 x14_3)),wrap64 ((rd t329 (wrap64 (x12_2 + 1))) - (rd t329 x12_2))⟩ : S43)]) (wrap64 (x14_3 + 1))) else (none)) else (none)) else (none)) else (none)) else (none)) else (none)) else (none)) else (none)) else (none)) = some r := by rw [if_pos rfl] at H;exact H
                         clear H;have H := H1;clear H1
                         by_cases c76 : 0 ≤ x14_3
                         · rw [if_pos c76] at H
                           have c76b0 : decide (0 ≤ x14_3) = true := decide_eq_true c76;clear c76
                           by_cases c77 : x14_3 < (t326.length : Int)
                           · rw [if_pos c77] at H
                             have c77b0 : decide (x14_3 < (t326.length : Int)) = true := decide_eq_true c77;clear c77
                             by_cases c78 : 0 ≤ x12_2
                             · rw [if_pos c78] at H
                               have c78b0 : decide (0 ≤ x12_2) = true := decide_eq_true c78;clear c78
                               by_cases c79 : x12_2 < (t329.length : Int)
                               · rw [if_pos c79] at H
                                 have c79b0 : decide (x12_2 < (t329.length : Int)) = true := decide_eq_true c79;clear c79
                                 obtain ⟨ji80,hji80⟩ : ∃ j_ : Int,(wrap64 (x14_3 + 1)) = j_ := ⟨_,rfl⟩
                                 replace H : (if 0 ≤ (ji80) then (if (ji80) < (t326.length : Int) then (if 0 ≤ (wrap64 (x12_2 + 1)) then (if (wrap64 (x12_2 + 1)) < (t329.length : Int) then (if x13_3.length < 4398046511104 then (Zc.l2 kj58 l0 l1 a2 t326 t329 x11_2 x12_2 (x13_3 ++ [(⟨rd t326 x14_3,rd t329 x12_2,wrap64 ((rd t326 (ji80)) - (rd t326 x14_3)),wrap64 ((rd t329 (wrap64 (x12_2 + 1))) - (rd t329 x12_2))⟩ : S43)]) ji80) else (none)) else (none)) else (none)) else (none)) else (none)) = some r := by first | (rw [hji80] at H;exact H) | (simp only [hji80] at H ⊢;exact H)
                                 (try rw [hji80] at c52b0)
                                 have hji80w : (IntKind.i64.wrap (x14_3 + 1)) = ji80 := (i64_w _).trans hji80
                                 by_cases c81 : 0 ≤ (ji80)
                                 · rw [if_pos c81] at H
                                   have c81b0 : decide (0 ≤ (ji80)) = true := decide_eq_true c81;clear c81
                                   by_cases c82 : (ji80) < (t326.length : Int)
                                   · rw [if_pos c82] at H
                                     have c82b0 : decide ((ji80) < (t326.length : Int)) = true := decide_eq_true c82;clear c82
                                     obtain ⟨ji83,hji83⟩ : ∃ j_ : Int,(wrap64 (x12_2 + 1)) = j_ := ⟨_,rfl⟩
                                     replace H : (if 0 ≤ (ji83) then (if (ji83) < (t329.length : Int) then (if x13_3.length < 4398046511104 then (Zc.l2 kj58 l0 l1 a2 t326 t329 x11_2 x12_2 (x13_3 ++ [(⟨rd t326 x14_3,rd t329 x12_2,wrap64 ((rd t326 (ji80)) - (rd t326 x14_3)),wrap64 ((rd t329 (ji83)) - (rd t329 x12_2))⟩ : S43)]) ji80) else (none)) else (none)) else (none)) = some r := by first | (rw [hji83] at H;exact H) | (simp only [hji83] at H ⊢;exact H)
                                     (try rw [hji83] at c50b0)
                                     have hji83w : (IntKind.i64.wrap (x12_2 + 1)) = ji83 := (i64_w _).trans hji83
                                     by_cases c84 : 0 ≤ (ji83)
                                     · rw [if_pos c84] at H
                                       have c84b0 : decide (0 ≤ (ji83)) = true := decide_eq_true c84;clear c84
                                       by_cases c85 : (ji83) < (t329.length : Int)
                                       · rw [if_pos c85] at H
                                         have c85b0 : decide ((ji83) < (t329.length : Int)) = true := decide_eq_true c85;clear c85
                                         by_cases c86 : x13_3.length < 4398046511104
                                         · rw [if_pos c86] at H
                                           have LMc86 := Zb.mk c86;clear c86
                                           obtain ⟨y344,hy344⟩ : ∃ y_ : List (S43),y_ = (x13_3 ++ [(⟨rd t326 x14_3,rd t329 x12_2,wrap64 ((rd t326 (ji80)) - (rd t326 x14_3)),wrap64 ((rd t329 (ji83)) - (rd t329 x12_2))⟩ : S43)]) := ⟨_,rfl⟩
                                           replace H : (Zc.l2 kj58 l0 l1 a2 t326 t329 x11_2 x12_2 y344 ji80) = some r := by first | (rw [hy344];with_reducible exact H) | (have H2_ := (Option.bind_some _ _).symm.trans H;rw [hy344];with_reducible exact H2_) | (have H2_ := (Option.bind_some _ _).symm.trans H;with_reducible exact H2_) | with_reducible exact H | (rw [hy344];exact H) | exact H
                                           have Ny344 := Zb.mk hy344;clear hy344;have H' := Zb.mk H;clear H
                                           try go_wp2
                                           have n0_ := Zb.mk (Kd.Zm HO_7.out);have n1_ := Zb.mk (Kd.Zm HO_8.out);have n2_ := Zb.mk (Kd.Xj HO_11.out);have n3_ := Zb.mk (Kd.Zm HO_13.out);have n4_ := Zb.mk (Zd HB.out);clear HO_7;clear HO_8;clear HO_11;clear HO_13;clear HB;have HO_7 := n0_;have HO_8 := n1_;have HO_11 := n2_;have HO_13 := n3_;have HB := n4_;clear n0_ n1_ n2_ n3_ n4_;have p338 : 0 ≤ (x14_3 : Int) := of_decide_eq_true (by first | (with_reducible assumption) | assumption);have q338 : x14_3 < (t326.length : Int) := of_decide_eq_true (by first | (with_reducible assumption) | assumption);obtain ⟨ad338,e338,hx338_0⟩ := Kd.XW (Kd.Z3 HO_7.out).2.2 x14_3 p338 q338
                                           obtain rfl : ad332 = ad338 := (by injection e338)
                                           replace p338 := eq_true p338;replace q338 := eq_true q338;have p339 : 0 ≤ (x12_2 : Int) := of_decide_eq_true (by first | (with_reducible assumption) | assumption);have q339 : x12_2 < (t329.length : Int) := of_decide_eq_true (by first | (with_reducible assumption) | assumption);obtain ⟨ad339,e339,hx339_0⟩ := Kd.XW (Kd.Z3 HO_8.out).2.2 x12_2 p339 q339
                                           obtain rfl : ad333 = ad339 := (by injection e339)
                                           replace p339 := eq_true p339;replace q339 := eq_true q339;have p340 : 0 ≤ ((ji80) : Int) := of_decide_eq_true (by first | (with_reducible assumption) | assumption);have q340 : (ji80) < (t326.length : Int) := of_decide_eq_true (by first | (with_reducible assumption) | assumption);obtain ⟨ad340,e340,hx340_0⟩ := Kd.XW (Kd.Z3 HO_7.out).2.2 (ji80) p340 q340
                                           obtain rfl : ad332 = ad340 := (by injection e340)
                                           replace p340 := eq_true p340;replace q340 := eq_true q340;have p341 : 0 ≤ (x14_3 : Int) := of_decide_eq_true (by first | (with_reducible assumption) | assumption);have q341 : x14_3 < (t326.length : Int) := of_decide_eq_true (by first | (with_reducible assumption) | assumption);obtain ⟨ad341,e341,hx341_0⟩ := Kd.XW (Kd.Z3 HO_7.out).2.2 x14_3 p341 q341
                                           obtain rfl : ad332 = ad341 := (by injection e341)
                                           replace p341 := eq_true p341;replace q341 := eq_true q341;have p342 : 0 ≤ ((ji83) : Int) := of_decide_eq_true (by first | (with_reducible assumption) | assumption);have q342 : (ji83) < (t329.length : Int) := of_decide_eq_true (by first | (with_reducible assumption) | assumption);obtain ⟨ad342,e342,hx342_0⟩ := Kd.XW (Kd.Z3 HO_8.out).2.2 (ji83) p342 q342
                                           obtain rfl : ad333 = ad342 := (by injection e342)
                                           replace p342 := eq_true p342;replace q342 := eq_true q342;have p343 : 0 ≤ (x12_2 : Int) := of_decide_eq_true (by first | (with_reducible assumption) | assumption);have q343 : x12_2 < (t329.length : Int) := of_decide_eq_true (by first | (with_reducible assumption) | assumption);obtain ⟨ad343,e343,hx343_0⟩ := Kd.XW (Kd.Z3 HO_8.out).2.2 x12_2 p343 q343
                                           obtain rfl : ad333 = ad343 := (by injection e343)
                                           replace p343 := eq_true p343;replace q343 := eq_true q343;refine Qn (n := 33) (S := fun w' => w'.cell? (ad332.add (x14_3).toNat) = some (.int .i64 (rd t326 x14_3)) ∧ w'.cell? (ad333.add (x12_2).toNat) = some (.int .i64 (rd t329 x12_2)) ∧ w'.cell? (ad332.add ((ji80)).toNat) = some (.int .i64 (rd t326 (ji80))) ∧ w'.cell? (ad332.add (x14_3).toNat) = some (.int .i64 (rd t326 x14_3)) ∧ w'.cell? (ad333.add ((ji83)).toNat) = some (.int .i64 (rd t329 (ji83))) ∧ w'.cell? (ad333.add (x12_2).toNat) = some (.int .i64 (rd t329 x12_2))) (ds := [30,31]) #[Z,Z,Z,Z,Z,Z,Z,Z,Z,Z,Z,Z,Z,Z,Z,Z,Z,Z,Z,Z,Z,Z,Z,Z,Z,Z,Z,Z,Z,Z,Z,Z,Z] (by kernel_rfl) rfl rfl ⟨hx338_0,hx339_0,hx340_0,hx341_0,hx342_0,hx343_0⟩ (fun hHeld => ?_);refine XC Zc.tab21 Zc.bits21 (fun HT_ HW_ => ?_);generalize wc.drew = w87 at HO_7 HO_8 HO_11 HO_13 HB hx338_0 hx339_0 hx340_0 hx341_0 hx342_0 hx343_0 hHeld ⊢;refine pure_ (i := 0) (N := some 133) (v := ?_) (a' := ?_) #[U,Z,Z,Z,Z,Z,Z,Z,Z,Z,Z,Z,Z,Z,Z,Z,Z,Z,Z,Z,Z,Z,Z,Z,Z,Z,Z,Z,Z,Z,Z,Z,Z] rfl rfl (Zs HT_.out (by kernel_rfl)) (fun _ _ _ h => h) (Or.inl ⟨by rfl,?_⟩) ?_ ?_;rotate_left
                                           · intro w'
                                             go_simp;with_reducible rfl
                                           rotate_left
                                           · simp only [Act.put,V9,VA,VB,i64_w,i32_w]
                                             rfl
                                           refine pure_ (i := 1) (N := some 134) (v := ?_) (a' := ?_) #[U,U,Z,Z,Z,Z,Z,Z,Z,Z,Z,Z,Z,Z,Z,Z,Z,Z,Z,Z,Z,Z,Z,Z,Z,Z,Z,Z,Z,Z,Z,Z,Z] rfl rfl (Zs HT_.out (by kernel_rfl)) (fun _ _ _ h => h) (Or.inl ⟨by rfl,?_⟩) ?_ ?_;rotate_left
                                           · intro w'
                                             go_simp;with_reducible rfl
                                           rotate_left
                                           · simp only [Act.put,V9,VA,VB,i64_w,i32_w]
                                             rfl
                                           refine pure_ (i := 2) (N := some 135) (v := ?_) (a' := ?_) #[U,U,U,Z,Z,Z,Z,Z,Z,Z,Z,Z,Z,Z,Z,Z,Z,Z,Z,Z,Z,Z,Z,Z,Z,Z,Z,Z,Z,Z,Z,Z,Z] rfl rfl (Zs HT_.out (by kernel_rfl)) (fun _ _ _ h => h) (Or.inl ⟨by rfl,?_⟩) ?_ ?_;rotate_left
                                           · intro w'
                                             go_simp;with_reducible rfl
                                           rotate_left
                                           · simp only [Act.put,V9,VA,VB,i64_w,i32_w]
                                             rfl
                                           refine pure_ (i := 3) (N := some 136) (v := ?_) (a' := ?_) #[U,U,U,U,Z,Z,Z,Z,Z,Z,Z,Z,Z,Z,Z,Z,Z,Z,Z,Z,Z,Z,Z,Z,Z,Z,Z,Z,Z,Z,Z,Z,Z] rfl rfl (Zs HT_.out (by kernel_rfl)) (fun _ _ _ h => h) (Or.inl ⟨by rfl,?_⟩) ?_ ?_;rotate_left
                                           · intro w'
                                             go_simp;with_reducible rfl
                                           rotate_left
                                           · simp only [Act.put,V9,VA,VB,i64_w,i32_w]
                                             rfl
                                           refine pure_ (i := 5) (N := some 138) (v := ?_) (a' := ?_) #[U,U,U,U,Z,U,Z,Z,Z,Z,Z,Z,Z,Z,Z,Z,Z,Z,Z,Z,Z,Z,Z,Z,Z,Z,Z,Z,Z,Z,Z,Z,Z] rfl rfl (Zs HT_.out (by kernel_rfl)) (fun _ _ _ h => h) (Or.inl ⟨by rfl,?_⟩) ?_ ?_;rotate_left
                                           · intro w'
                                             go_simp;with_reducible rfl
                                           rotate_left
                                           · simp only [Act.put,V9,VA,VB,i64_w,i32_w]
                                             rfl
                                           refine pure_ (i := 6) (N := some 139) (v := ?_) (a' := ?_) #[U,U,U,U,Z,U,U,Z,Z,Z,Z,Z,Z,Z,Z,Z,Z,Z,Z,Z,Z,Z,Z,Z,Z,Z,Z,Z,Z,Z,Z,Z,Z] rfl rfl (Zs HT_.out (by kernel_rfl)) (fun _ _ _ h => h) (Or.inl ⟨by rfl,?_⟩) ?_ ?_;rotate_left
                                           · intro w'
                                             go_simp;with_reducible rfl
                                           rotate_left
                                           · simp only [Act.put,V9,VA,VB,i64_w,i32_w]
                                             rfl
                                           refine pure_ (i := 7) (N := some 140) (v := ?_) (a' := ?_) #[U,U,U,U,Z,U,U,U,Z,Z,Z,Z,Z,Z,Z,Z,Z,Z,Z,Z,Z,Z,Z,Z,Z,Z,Z,Z,Z,Z,Z,Z,Z] rfl rfl (Zs HT_.out (by kernel_rfl)) (fun _ _ _ h => h) (Or.inl ⟨by rfl,?_⟩) ?_ ?_;rotate_left
                                           · intro w'
                                             go_simp;with_reducible rfl
                                           rotate_left
                                           · simp only [Act.put,V9,VA,VB,i64_w,i32_w]
                                             rfl
                                           refine pure_ (i := 9) (N := some 142) (v := ?_) (a' := ?_) #[U,U,U,U,Z,U,U,U,Z,U,Z,Z,Z,Z,Z,Z,Z,Z,Z,Z,Z,Z,Z,Z,Z,Z,Z,Z,Z,Z,Z,Z,Z] rfl rfl (Zs HT_.out (by kernel_rfl)) (fun _ _ _ h => h) (Or.inl ⟨by rfl,?_⟩) ?_ ?_;rotate_left
                                           · intro w'
                                             go_simp;with_reducible rfl
                                           rotate_left
                                           · simp only [Act.put,V9,VA,VB,i64_w,i32_w]
                                             rfl
                                           refine pure_ (i := 10) (N := some 143) (v := ?_) (a' := ?_) #[U,U,U,U,Z,U,U,U,Z,U,U,Z,Z,Z,Z,Z,Z,Z,Z,Z,Z,Z,Z,Z,Z,Z,Z,Z,Z,Z,Z,Z,Z] rfl rfl (Zs HT_.out (by kernel_rfl)) (fun _ _ _ h => h) (Or.inl ⟨by rfl,?_⟩) ?_ ?_;rotate_left
                                           · intro w'
                                             go_simp;with_reducible rfl
                                           rotate_left
                                           · simp only [Act.put,V9,VA,VB,i64_w,i32_w]
                                             rfl
                                           refine pure_ (i := 11) (N := some 144) (v := ?_) (a' := ?_) #[U,U,U,U,Z,U,U,U,Z,U,U,U,Z,Z,Z,Z,Z,Z,Z,Z,Z,Z,Z,Z,Z,Z,Z,Z,Z,Z,Z,Z,Z] rfl rfl (Zs HT_.out (by kernel_rfl)) (fun _ _ _ h => h) (Or.inl ⟨by rfl,?_⟩) ?_ ?_;rotate_left
                                           · intro w'
                                             go_simp;with_reducible rfl
                                           rotate_left
                                           · simp only [Act.put,V9,VA,VB,i64_w,i32_w]
                                             rfl
                                           refine pure_ (i := 12) (N := some 145) (v := ?_) (a' := ?_) #[U,U,U,U,Z,U,U,U,Z,U,U,U,U,Z,Z,Z,Z,Z,Z,Z,Z,Z,Z,Z,Z,Z,Z,Z,Z,Z,Z,Z,Z] rfl rfl (Zs HT_.out (by kernel_rfl)) (fun _ _ _ h => h) (Or.inl ⟨by rfl,?_⟩) ?_ ?_;rotate_left
                                           · intro w'
                                             go_simp;with_reducible rfl
                                           rotate_left
                                           · simp only [Act.put,V9,VA,VB,i64_w,i32_w]
                                             rfl
                                           refine pure_ (i := 14) (N := some 147) (v := ?_) (a' := ?_) #[U,U,U,U,Z,U,U,U,Z,U,U,U,U,Z,U,Z,Z,Z,Z,Z,Z,Z,Z,Z,Z,Z,Z,Z,Z,Z,Z,Z,Z] rfl rfl (Zs HT_.out (by kernel_rfl)) (fun _ _ _ h => h) (Or.inl ⟨by rfl,?_⟩) ?_ ?_;rotate_left
                                           · intro w'
                                             go_simp;with_reducible rfl
                                           rotate_left
                                           · simp only [Act.put,V9,VA,VB,i64_w,i32_w]
                                             rfl
                                           refine pure_ (i := 15) (N := some 148) (v := ?_) (a' := ?_) #[U,U,U,U,Z,U,U,U,Z,U,U,U,U,Z,U,U,Z,Z,Z,Z,Z,Z,Z,Z,Z,Z,Z,Z,Z,Z,Z,Z,Z] rfl rfl (Zs HT_.out (by kernel_rfl)) (fun _ _ _ h => h) (Or.inl ⟨by rfl,?_⟩) ?_ ?_;rotate_left
                                           · intro w'
                                             go_simp;with_reducible rfl
                                           rotate_left
                                           · simp only [Act.put,V9,VA,VB,i64_w,i32_w]
                                             rfl
                                           refine pure_ (i := 16) (N := some 149) (v := ?_) (a' := ?_) #[U,U,U,U,Z,U,U,U,Z,U,U,U,U,Z,U,U,U,Z,Z,Z,Z,Z,Z,Z,Z,Z,Z,Z,Z,Z,Z,Z,Z] rfl rfl (Zs HT_.out (by kernel_rfl)) (fun _ _ _ h => h) (Or.inl ⟨by rfl,?_⟩) ?_ ?_;rotate_left
                                           · intro w'
                                             go_simp;with_reducible rfl
                                           rotate_left
                                           · simp only [Act.put,V9,VA,VB,i64_w,i32_w]
                                             rfl
                                           refine pure_ (i := 19) (N := some 152) (v := ?_) (a' := ?_) #[U,U,U,U,Z,U,U,U,Z,U,U,U,U,Z,U,U,U,Z,Z,U,Z,Z,Z,Z,Z,Z,Z,Z,Z,Z,Z,Z,Z] rfl rfl (Zs HT_.out (by kernel_rfl)) (fun _ _ _ h => h) (Or.inl ⟨by rfl,?_⟩) ?_ ?_;rotate_left
                                           · intro w'
                                             go_simp;with_reducible rfl
                                           rotate_left
                                           · simp only [Act.put,V9,VA,VB,i64_w,i32_w]
                                             rfl
                                           refine pure_ (i := 20) (N := some 153) (v := ?_) (a' := ?_) #[U,U,U,U,Z,U,U,U,Z,U,U,U,U,Z,U,U,U,Z,Z,U,U,Z,Z,Z,Z,Z,Z,Z,Z,Z,Z,Z,Z] rfl rfl (Zs HT_.out (by kernel_rfl)) (fun _ _ _ h => h) (Or.inl ⟨by rfl,?_⟩) ?_ ?_;rotate_left
                                           · intro w'
                                             go_simp;with_reducible rfl
                                           rotate_left
                                           · simp only [Act.put,V9,VA,VB,i64_w,i32_w]
                                             rfl
                                           refine pure_ (i := 21) (N := some 154) (v := ?_) (a' := ?_) #[U,U,U,U,Z,U,U,U,Z,U,U,U,U,Z,U,U,U,Z,Z,U,U,U,Z,Z,Z,Z,Z,Z,Z,Z,Z,Z,Z] rfl rfl (Zs HT_.out (by kernel_rfl)) (fun _ _ _ h => h) (Or.inl ⟨by rfl,?_⟩) ?_ ?_;rotate_left
                                           · intro w'
                                             go_simp;with_reducible rfl
                                           rotate_left
                                           · simp only [Act.put,V9,VA,VB,i64_w,i32_w]
                                             rfl
                                           refine pure_ (i := 22) (N := some 155) (v := ?_) (a' := ?_) #[U,U,U,U,Z,U,U,U,Z,U,U,U,U,Z,U,U,U,Z,Z,U,U,U,U,Z,Z,Z,Z,Z,Z,Z,Z,Z,Z] rfl rfl (Zs HT_.out (by kernel_rfl)) (fun _ _ _ h => h) (Or.inl ⟨by rfl,?_⟩) ?_ ?_;rotate_left
                                           · intro w'
                                             go_simp;with_reducible rfl
                                           rotate_left
                                           · simp only [Act.put,V9,VA,VB,i64_w,i32_w]
                                             rfl
                                           refine pure_ (i := 24) (N := some 157) (v := ?_) (a' := ?_) #[U,U,U,U,Z,U,U,U,Z,U,U,U,U,Z,U,U,U,Z,Z,U,U,U,U,Z,U,Z,Z,Z,Z,Z,Z,Z,Z] rfl rfl (Zs HT_.out (by kernel_rfl)) (fun _ _ _ h => h) (Or.inl ⟨by rfl,?_⟩) ?_ ?_;rotate_left
                                           · intro w'
                                             go_simp;with_reducible rfl
                                           rotate_left
                                           · simp only [Act.put,V9,VA,VB,i64_w,i32_w]
                                             rfl
                                           refine pure_ (i := 25) (N := some 158) (v := ?_) (a' := ?_) #[U,U,U,U,Z,U,U,U,Z,U,U,U,U,Z,U,U,U,Z,Z,U,U,U,U,Z,U,U,Z,Z,Z,Z,Z,Z,Z] rfl rfl (Zs HT_.out (by kernel_rfl)) (fun _ _ _ h => h) (Or.inl ⟨by rfl,?_⟩) ?_ ?_;rotate_left
                                           · intro w'
                                             go_simp;with_reducible rfl
                                           rotate_left
                                           · simp only [Act.put,V9,VA,VB,i64_w,i32_w]
                                             rfl
                                           refine pure_ (i := 26) (N := some 159) (v := ?_) (a' := ?_) #[U,U,U,U,Z,U,U,U,Z,U,U,U,U,Z,U,U,U,Z,Z,U,U,U,U,Z,U,U,U,Z,Z,Z,Z,Z,Z] rfl rfl (Zs HT_.out (by kernel_rfl)) (fun _ _ _ h => h) (Or.inl ⟨by rfl,?_⟩) ?_ ?_;rotate_left
                                           · intro w'
                                             go_simp;with_reducible rfl
                                           rotate_left
                                           · simp only [Act.put,V9,VA,VB,i64_w,i32_w]
                                             rfl
                                           refine take_ (i := 4) (N := some 137) (v := ?_) (a' := ?_) #[U,U,U,U,U,U,U,U,Z,U,U,U,U,Z,U,U,U,Z,Z,U,U,U,U,Z,U,U,U,Z,Z,Z,Z,Z,Z] rfl rfl (ZQ HT_.out HW_.out (by kernel_rfl)) (fun _ _ _ h => h) (Or.inl ⟨by rfl,?_⟩) hHeld ?_ ?_;rotate_left
                                           · rintro w' ⟨s0,s1,s2,s3,s4,s5⟩
                                             go_simp;with_reducible rfl
                                           rotate_left
                                           · simp only [Act.put,V9,VA,VB,i64_w,i32_w]
                                             rfl
                                           refine take_ (i := 8) (N := some 141) (v := ?_) (a' := ?_) #[U,U,U,U,U,U,U,U,U,U,U,U,U,Z,U,U,U,Z,Z,U,U,U,U,Z,U,U,U,Z,Z,Z,Z,Z,Z] rfl rfl (ZQ HT_.out HW_.out (by kernel_rfl)) (fun _ _ _ h => h) (Or.inl ⟨by rfl,?_⟩) hHeld ?_ ?_;rotate_left
                                           · rintro w' ⟨s0,s1,s2,s3,s4,s5⟩
                                             go_simp;with_reducible rfl
                                           rotate_left
                                           · simp only [Act.put,V9,VA,VB,i64_w,i32_w]
                                             rfl
                                           refine take_ (i := 13) (N := some 146) (v := ?_) (a' := ?_) #[U,U,U,U,U,U,U,U,U,U,U,U,U,U,U,U,U,Z,Z,U,U,U,U,Z,U,U,U,Z,Z,Z,Z,Z,Z] rfl rfl (ZQ HT_.out HW_.out (by kernel_rfl)) (fun _ _ _ h => h) (Or.inl ⟨by rfl,?_⟩) hHeld ?_ ?_;rotate_left
                                           · rintro w' ⟨s0,s1,s2,s3,s4,s5⟩
                                             go_simp;with_reducible rfl
                                           rotate_left
                                           · simp only [Act.put,V9,VA,VB,i64_w,i32_w]
                                             rfl
                                           refine take_ (i := 17) (N := some 150) (v := ?_) (a' := ?_) #[U,U,U,U,U,U,U,U,U,U,U,U,U,U,U,U,U,U,Z,U,U,U,U,Z,U,U,U,Z,Z,Z,Z,Z,Z] rfl rfl (ZQ HT_.out HW_.out (by kernel_rfl)) (fun _ _ _ h => h) (Or.inl ⟨by rfl,?_⟩) hHeld ?_ ?_;rotate_left
                                           · rintro w' ⟨s0,s1,s2,s3,s4,s5⟩
                                             go_simp;with_reducible rfl
                                           rotate_left
                                           · simp only [Act.put,V9,VA,VB,i64_w,i32_w]
                                             rfl
                                           refine pure_ (i := 18) (N := some 151) (v := ?_) (a' := ?_) #[U,U,U,U,U,U,U,U,U,U,U,U,U,U,U,U,U,U,U,U,U,U,U,Z,U,U,U,Z,Z,Z,Z,Z,Z] rfl rfl (Zs HT_.out (by kernel_rfl)) (fun _ _ _ h => h) (Or.inl ⟨by rfl,?_⟩) ?_ ?_;rotate_left
                                           · intro w'
                                             go_simp;with_reducible rfl
                                           rotate_left
                                           · simp only [Act.put,V9,VA,VB,i64_w,i32_w]
                                             rfl
                                           refine take_ (i := 23) (N := some 156) (v := ?_) (a' := ?_) #[U,U,U,U,U,U,U,U,U,U,U,U,U,U,U,U,U,U,U,U,U,U,U,U,U,U,U,Z,Z,Z,Z,Z,Z] rfl rfl (ZQ HT_.out HW_.out (by kernel_rfl)) (fun _ _ _ h => h) (Or.inl ⟨by rfl,?_⟩) hHeld ?_ ?_;rotate_left
                                           · rintro w' ⟨s0,s1,s2,s3,s4,s5⟩
                                             go_simp;with_reducible rfl
                                           rotate_left
                                           · simp only [Act.put,V9,VA,VB,i64_w,i32_w]
                                             rfl
                                           refine take_ (i := 27) (N := some 160) (v := ?_) (a' := ?_) #[U,U,U,U,U,U,U,U,U,U,U,U,U,U,U,U,U,U,U,U,U,U,U,U,U,U,U,U,Z,Z,Z,Z,Z] rfl rfl (ZQ HT_.out HW_.out (by kernel_rfl)) (fun _ _ _ h => h) (Or.inl ⟨by rfl,?_⟩) hHeld ?_ ?_;rotate_left
                                           · rintro w' ⟨s0,s1,s2,s3,s4,s5⟩
                                             go_simp;with_reducible rfl
                                           rotate_left
                                           · simp only [Act.put,V9,VA,VB,i64_w,i32_w]
                                             rfl
                                           refine pure_ (i := 28) (N := some 161) (v := ?_) (a' := ?_) #[U,U,U,U,U,U,U,U,U,U,U,U,U,U,U,U,U,U,U,U,U,U,U,U,U,U,U,U,U,Z,Z,Z,Z] rfl rfl (Zs HT_.out (by kernel_rfl)) (fun _ _ _ h => h) (Or.inl ⟨by rfl,?_⟩) ?_ ?_;rotate_left
                                           · intro w'
                                             go_simp;with_reducible rfl
                                           rotate_left
                                           · simp only [Act.put,V9,VA,VB,i64_w,i32_w]
                                             rfl
                                           refine pure_ (i := 29) (N := some 162) (v := ?_) (a' := ?_) #[U,U,U,U,U,U,U,U,U,U,U,U,U,U,U,U,U,U,U,U,U,U,U,U,U,U,U,U,U,U,Z,Z,Z] rfl rfl (Zs HT_.out (by kernel_rfl)) (fun _ _ _ h => h) (Or.inl ⟨by rfl,?_⟩) ?_ ?_;rotate_left
                                           · intro w'
                                             go_simp;with_reducible rfl
                                           rotate_left
                                           · simp only [Act.put,V9,VA,VB,i64_w,i32_w]
                                             rfl
                                           refine last_ (i := 30) (N := some 163) #[U,U,U,U,U,U,U,U,U,U,U,U,U,U,U,U,U,U,U,U,U,U,U,U,U,U,U,U,U,U,U,Z,Z] rfl rfl (XB HT_.out (by kernel_rfl)) (by decide) (fun K hK => ?_);refine V1 (w1 := ?_) (v := ?_) (by rfl) rfl ?_ ?_;rotate_left 2
                                           · go_simp
                                             constructor
                                             · rfl
                                             · rfl
                                           refine hK.out _ _ ?_;clear hK K;refine norm_ (a' := ?_) ?_ ?_;rotate_left
                                           · show Act.put _ (some 163) _ = _
                                             simp only [Act.put,V9,VA,VB,i64_w,i32_w];rfl
                                           refine last_ (i := 31) (N := some 164) #[U,U,U,U,U,U,U,U,U,U,U,U,U,U,U,U,U,U,U,U,U,U,U,U,U,U,U,U,U,U,U,U,Z] rfl rfl (XB HT_.out (by kernel_rfl)) (by decide) (fun K hK => ?_);refine Kd.QS k43 (w0 := w) w.heap.size (by rfl) (.tmp 133) (.tmp 163) 22 43 (.agg #[(.int .i64 0),(.int .i64 0),(.int .i64 0),(.int .i64 0)]) 32 rfl Try.underlying22 info43 rfl (by decide) (by omega) u13 x13_3 (⟨rd t326 x14_3,rd t329 x12_2,wrap64 ((rd t326 (ji80)) - (rd t326 x14_3)),wrap64 ((rd t329 (ji83)) - (rd t329 x12_2))⟩ : S43) [.int .i64 (rd t326 x14_3),.int .i64 (rd t329 x12_2),.int .i64 (wrap64 ((rd t326 (ji80)) - (rd t326 x14_3))),.int .i64 (wrap64 ((rd t329 (ji83)) - (rd t329 x12_2)))] (fun _ => True) (fun _ => False) rfl rfl ?aP (fun _ hk => hk.elim) ?aF ?aO ?aB ?aS ?aL ?_
                                           (case aP => exact Xs _ _ _ (⟨rd t326 x14_3,rd t329 x12_2,wrap64 ((rd t326 (ji80)) - (rd t326 x14_3)),wrap64 ((rd t329 (ji83)) - (rd t329 x12_2))⟩ : S43))
                                           (case aB => exact (by repeat (first | (with_reducible first | exact HB.out | apply Zf | apply Za | apply Zd) | exact HB.out)))
                                           (case aF => exact (fun _ _ => trivial))
                                           (case aO => exact (by (with_reducible repeat (first | apply Kd.Zj | apply Kd.Zi | apply Kd.Zm));exact HO_13.out))
                                           (case aS => exact (Zp (by repeat (first | (with_reducible first | exact HB.out | apply Zf | apply Za | apply Zd) | exact HB.out))))
                                           (case aL => have := LMc86.out;omega)
                                           intro v345 w88 ho hb hg hat
                                           rw [← Ny344.out] at ho;have n0_ := Zb.mk (Kd.Y5 (by (with_reducible repeat (first | apply Kd.Zj | apply Kd.Zi | apply Kd.Zm));exact HO_7.out) (Kd.JD (by (with_reducible repeat (first | apply Kd.Zj | apply Kd.Zi | apply Kd.Zm));exact HO_13.out)) (by decide) hg);have n1_ := Zb.mk (Kd.Y5 (by (with_reducible repeat (first | apply Kd.Zj | apply Kd.Zi | apply Kd.Zm));exact HO_8.out) (Kd.JD (by (with_reducible repeat (first | apply Kd.Zj | apply Kd.Zi | apply Kd.Zm));exact HO_13.out)) (by decide) hg);have n2_ := Zb.mk (Kd.Vf (ok := (fun _ => True)) (by (with_reducible repeat (first | apply Kd.Xe | apply Kd.Xf | apply Kd.Xj));exact Kd.Qp HO_11.out (fun _ hk => ⟨trivial,hk⟩)) hg hat);have n3_ := Zb.mk (hb);have n4_ := Zb.mk (ho);clear HO_7;clear HO_8;clear HO_11;clear HB;clear HO_13;have HO_7 := n0_;have HO_8 := n1_;have HO_11 := n2_;have HB := n3_;have HO346 := n4_;clear n0_ n1_ n2_ n3_ n4_
                                           clear ho hb hg hat
                                           refine hK.out _ _ ?_;clear hK K;refine norm_ (a' := ?_) ?_ ?_;rotate_left
                                           · show Act.put _ (some 164) _ = _
                                             simp only [Act.put,V9,VA,VB,i64_w,i32_w];rfl
                                           refine pure_ (i := 32) (N := some 13) (v := ?_) (a' := ?_) #[U,U,U,U,U,U,U,U,U,U,U,U,U,U,U,U,U,U,U,U,U,U,U,U,U,U,U,U,U,U,U,U,U] rfl rfl (Zs HT_.out (by kernel_rfl)) (fun _ _ _ h => h) (Or.inl ⟨by rfl,?_⟩) ?_ ?_;rotate_left
                                           · intro w'
                                             go_simp;with_reducible rfl
                                           rotate_left
                                           · simp only [Act.put,V9,VA,VB,i64_w,i32_w]
                                             rfl
                                           refine done_ (XV HT_.out (by kernel_rfl)) ?_
                                           try go_wp2
                                           subst hji83
                                           go_roundg kj58
                                           case measure => have := HK1.out;have := HK2.out;have := HK3.out;have := HJ58.out;omega
                                           case rel => exact ⟨(y344),(ji80),(by first | rfl | (simp;done) | (simp only [← hji80] <;> (first | rfl | simp)) | (simp [*];done)),H',⟨by have := HK1.out;have := HK2.out;have := HK3.out;have := HJ58.out;omega⟩,⟨by (with_reducible repeat (first | apply Kd.Zj | apply Kd.Zi | apply Kd.Zm));exact HO_7.out⟩,⟨by (with_reducible repeat (first | apply Kd.Zj | apply Kd.Zi | apply Kd.Zm));exact HO_8.out⟩,⟨by (with_reducible repeat (first | apply Kd.Xe | apply Kd.Xf | apply Kd.Xj));exact Kd.Qp HO_11.out (fun _ hk => hk.2)⟩,⟨by (with_reducible repeat (first | apply Kd.Zj | apply Kd.Zi | apply Kd.Zm));exact HO346.out⟩,⟨by repeat (first | (with_reducible first | exact HB.out | apply Zf | apply Za | apply Zd) | exact HB.out)⟩⟩
                                         · rw [if_neg c86] at H
                                           exact absurd H (by simp)
                                       · rw [if_neg c85] at H
                                         exact absurd H (by simp)
                                     · rw [if_neg c84] at H
                                       exact absurd H (by simp)
                                   · rw [if_neg c82] at H
                                     exact absurd H (by simp)
                                 · rw [if_neg c81] at H
                                   exact absurd H (by simp)
                               · rw [if_neg c79] at H
                                 exact absurd H (by simp)
                             · rw [if_neg c78] at H
                               exact absurd H (by simp)
                           · rw [if_neg c77] at H
                             exact absurd H (by simp)
                         · rw [if_neg c76] at H
                           exact absurd H (by simp)
                       · replace c75 := Bool.eq_false_iff.mpr c75
                         subst c75
                         have H1 : (Zc.l2 kj58 l0 l1 a2 t326 t329 x11_2 x12_2 x13_3 (wrap64 (x14_3 + 1))) = some r := by rw [if_neg (show ¬ (false = true) by decide)] at H;exact H
                         clear H;have H := H1;clear H1;have H' := Zb.mk H;clear H
                         go_wp2
                         go_roundg kj58
                         case measure => have := HK1.out;have := HK2.out;have := HK3.out;have := HJ58.out;omega
                         case rel => exact ⟨(x13_3),(wrap64 (x14_3 + 1)),(by first | rfl | (simp;done) | (simp [*];done)),H',⟨by have := HK1.out;have := HK2.out;have := HK3.out;have := HJ58.out;omega⟩,⟨by (with_reducible repeat (first | apply Kd.Zj | apply Kd.Zi | apply Kd.Zm));exact HO_7.out⟩,⟨by (with_reducible repeat (first | apply Kd.Zj | apply Kd.Zi | apply Kd.Zm));exact HO_8.out⟩,⟨by (with_reducible repeat (first | apply Kd.Xe | apply Kd.Xf | apply Kd.Xj));exact HO_11.out⟩,⟨by (with_reducible repeat (first | apply Kd.Zj | apply Kd.Zi | apply Kd.Zm));exact HO_13.out⟩,⟨by repeat (first | (with_reducible first | exact HB.out | apply Zf | apply Za | apply Zd) | exact HB.out)⟩⟩
                   · rw [if_neg c56] at H
                     exact absurd H (by simp)
                 · rw [if_neg c55] at H
                   exact absurd H (by simp)
               · rw [if_neg c54] at H
                 exact absurd H (by simp)
             · rw [if_neg c53] at H
               exact absurd H (by simp)
           · rw [if_neg c52] at H
             have c52b0 : decide ((wrap64 (x14_3 + 1)) < (t326.length : Int)) = false := decide_eq_false c52;clear c52;replace H := Option.bind_eq_some_iff.mp H;obtain ⟨t347,A890,H⟩ := H;replace H : (if (x11_2.length : Int) > 0 then (if 0 ≤ (wrap64 ((x11_2.length : Int) - 1)) then (if (wrap64 ((x11_2.length : Int) - 1)) < (x11_2.length : Int) then ((Zy.f k3 (rd_L2 x11_2 (wrap64 ((x11_2.length : Int) - 1))) t347).bind fun t351 => (Zc.j4 k3 l0 l1 a2 t326 t329 x11_2 x12_2 t347 (x11_2.length : Int) t351)) else (none)) else (none)) else (Zc.j4 k3 l0 l1 a2 t326 t329 x11_2 x12_2 t347 (x11_2.length : Int) false)) = some r := H;have A89 := Zb.mk A890;clear A890;have HC90 := Zb.mk H;clear H;obtain ⟨Ao91,co91,eo91⟩ := Kd.ZS HO_7.out;subst eo91;obtain ⟨Ao92,co92,eo92⟩ := Kd.ZS HO_13.out;subst eo92
             go_upto_region 24 with (first | ((with_reducible refine Zw (f := 113) rfl ?_);refine ZP (some 166) rfl rfl Try.func113 (by kernel_rfl) rfl #[.slice Ao92 x13_3.length co92] rfl (by (try simp only [List.map_toArray,List.map_cons,List.map_nil]);first | done | rfl | (simp only [List.length_drop,List.length_take];rfl)) ?_;(with_reducible refine (Zv.calls k3 _ _ x13_3 t347 _ ?side1 ?side2 A89.out).mono ?_);(case side1 => repeat (first | exact (Kd.Z3 HO_13.out).2.2 | (with_reducible refine Kd.Z9 ?_ _) | (with_reducible refine Kd.ZA ?_ _) | (with_reducible refine Kd.ZO ?_)));(case side2 => exact (Kd.Z3 HO_13.out).2.1);rintro e w93 ⟨v348,rfl,ho0,hb⟩;refine ⟨_,rfl,?_⟩;have n0_ := Zb.mk (Kd.Xa (by (with_reducible repeat (first | apply Kd.Zj | apply Kd.Zi | apply Kd.Zm));exact HO_7.out) hb);have n1_ := Zb.mk (Kd.Xa (by (with_reducible repeat (first | apply Kd.Zj | apply Kd.Zi | apply Kd.Zm));exact HO_8.out) hb);have n2_ := Zb.mk (Kd.S_elder' (by (with_reducible repeat (first | apply Kd.Xe | apply Kd.Xf | apply Kd.Xj));exact HO_11.out) (Kd.Xn ho0) hb);have n3_ := Zb.mk (Kd.ZY (by (with_reducible repeat (first | apply Kd.Zj | apply Kd.Zi | apply Kd.Zm));exact HO_13.out) (Kd.Xn ho0) hb);have n4_ := Zb.mk (Kd.Xd (Kd.Xp ho0 (Kd.R_lt (by (with_reducible repeat (first | apply Kd.Zj | apply Kd.Zi | apply Kd.Zm));exact HO_13.out))) (Zp (by repeat (first | (with_reducible first | exact HB.out | apply Zf | apply Za | apply Zd) | exact HB.out))));have n5_ := Zb.mk (Zr (by repeat (first | (with_reducible first | exact HB.out | apply Zf | apply Za | apply Zd) | exact HB.out)) hb);clear HO_7;clear HO_8;clear HO_11;clear HO_13;clear HB;have HO_7 := n0_;have HO_8 := n1_;have HO_11 := n2_;have HO_13 := n3_;have HO349 := n4_;have HB := n5_;clear n0_ n1_ n2_ n3_ n4_ n5_;(try clear hb);(try clear hb2);(try clear hk);(try clear hi);(try clear ho0);obtain ⟨Ao94,co94,eo94⟩ := Kd.J9 HO_11.out;subst eo94))
             (try simp only [Act.put,V9,VA,VB])
             go_cut [179] (fun v179 wc => ∃ (kq : Nat) (x179_89 : Bool),v179 = .bool x179_89 ∧ Zb (Zc.j4 kq l0 l1 a2 t326 t329 x11_2 x12_2 t347 (x11_2.length : Int) x179_89 = some r) ∧ Zb (kq ≤ k3) ∧ Zb (Kd.R (Kd.int .i64) 3 wc w.heap.size (fun k_ => some k_ ≠ ((.slice Ao51 t329.length co51) : Value).ownBlock) (.slice Ao91 t326.length co91) t326) ∧ Zb (Kd.R (Kd.int .i64) 3 wc w.heap.size (fun k_ => some k_ ≠ ((.slice Ao91 t326.length co91) : Value).ownBlock) (.slice Ao51 t329.length co51) t329) ∧ Zb (Kd.S (Kd.slice 43 k43) 22 wc w.heap.size (fun k_ => some k_ ≠ (v348 : Value).ownBlock) (.slice Ao94 x11_2.length co94) x11_2) ∧ Zb (Kd.R k43 43 wc w.heap.size (fun _ => True) v348 t347) ∧ Zb (Below w.heap.size w wc))
             case first => as_aux_lemma =>
              have H := HC90.out;clear HC90
              by_cases c95 : (x11_2.length : Int) > 0
              · rw [if_pos c95] at H
                have c95b0 : decide (0 < (x11_2.length : Int)) = true := decide_eq_true c95;have c95b1 : decide (0 < x11_2.length) = true := decide_eq_true (by omega);clear c95
                (first | rw [c95b0] | (simp only [i64_w,i32_w];rw [c95b0]) | skip)
                obtain ⟨ji96,hji96⟩ : ∃ j_ : Int,(wrap64 ((x11_2.length : Int) - 1)) = j_ := ⟨_,rfl⟩
                replace H : (if 0 ≤ (ji96) then (if (ji96) < (x11_2.length : Int) then ((Zy.f k3 (rd_L2 x11_2 (ji96)) t347).bind fun t351 => (Zc.j4 k3 l0 l1 a2 t326 t329 x11_2 x12_2 t347 (x11_2.length : Int) t351)) else (none)) else (none)) = some r := by first | (rw [hji96] at H;exact H) | (simp only [hji96] at H ⊢;exact H)
                have hji96w : (IntKind.i64.wrap ((x11_2.length : Int) - 1)) = ji96 := (i64_w _).trans hji96
                by_cases c97 : 0 ≤ (ji96)
                · rw [if_pos c97] at H
                  have c97b0 : decide (0 ≤ (ji96)) = true := decide_eq_true c97;clear c97
                  by_cases c98 : (ji96) < (x11_2.length : Int)
                  · rw [if_pos c98] at H
                    have c98b0 : decide ((ji96) < (x11_2.length : Int)) = true := decide_eq_true c98;clear c98;replace H := Option.bind_eq_some_iff.mp H;obtain ⟨t351,A990,H⟩ := H;replace H : (Zc.j4 k3 l0 l1 a2 t326 t329 x11_2 x12_2 t347 (x11_2.length : Int) t351) = some r := H;have A99 := Zb.mk A990;clear A990;have H' := Zb.mk H;clear H;have p350 : 0 ≤ ((ji96) : Int) := of_decide_eq_true (by first | (with_reducible assumption) | assumption);have q350 : (ji96) < (x11_2.length : Int) := of_decide_eq_true (by first | (with_reducible assumption) | assumption);obtain ⟨ad350,A350_0,c350_0,e350,hx350_0,hl350_0,hi350_0⟩ := at_L2 (Kd.Qd HO_11.out).2.2 (ji96) p350 q350
                    cases e350
                    obtain ⟨ce350,hce350,hMe350,hcc350⟩ := Kd.S_get HO_11.out [] (ji96) p350 (by first | exact q350 | exact of_decide_eq_true (by first | (with_reducible assumption) | assumption) | (have e_ := (Kd.Qd HO_11.out).1;omega));obtain ⟨ve350_0,rfl,ge350_0⟩ := hMe350;have hv350_0 := hcc350 0 _ rfl;rw [Nat.add_zero,show ((Kd.slice 43 k43)).sz = 1 from rfl,Nat.mul_one] at hv350_0;replace hv350_0 := Option.some.inj (hv350_0.symm.trans hx350_0);rw [hv350_0] at ge350_0;have HL350_0 := Zb.mk (show Kd.R k43 43 _ _ _ _ (rd_L2 x11_2 (ji96)) from ge350_0);clear hv350_0 ge350_0;have HX350_0 := Zb.mk hx350_0;clear hcc350 hce350;have HR350_0 := Zb.mk hi350_0;have HC350_0 := Zb.mk hl350_0;clear hi350_0 hl350_0;replace p350 := eq_true p350;replace q350 := eq_true q350;obtain ⟨Ao100,co100,eo100⟩ := Kd.ZS HO349.out;subst eo100
                    go_wp2_with (first | (go_at_call 114;(with_reducible refine (Zy.calls k3 _ _ (rd_L2 x11_2 (ji96)) _ _ t347 t351 _ ?side1 ?side2 ?side3 ?side4 A99.out).mono ?_);(case side1 => repeat (first | exact (by repeat (first | (with_reducible exact HR350_0.out) | (with_reducible refine Kd.Z9 ?_ _) | (with_reducible refine Kd.ZA ?_ _) | (with_reducible refine Kd.ZO ?_) | exact HR350_0.out)) | (with_reducible refine Kd.Z9 ?_ _) | (with_reducible refine Kd.ZA ?_ _) | (with_reducible refine Kd.ZO ?_)));(case side2 => exact HC350_0.out);(case side3 => repeat (first | exact (Kd.Z3 HO349.out).2.2 | (with_reducible refine Kd.Z9 ?_ _) | (with_reducible refine Kd.ZA ?_ _) | (with_reducible refine Kd.ZO ?_)));(case side4 => exact (Kd.Z3 HO349.out).2.1);rintro e w' ⟨rfl,⟨nd,rfl⟩⟩))
                    go_meet
                    case rel => exact ⟨_,(t351),(by first | rfl | (simp;done) | (simp [*];done)),H',⟨by have := HK1.out;have := HK2.out;have := HK3.out;first | omega | exact Nat.le_refl _⟩,⟨by (with_reducible repeat (first | apply Kd.Zj | apply Kd.Zi | apply Kd.Zm));exact HO_7.out⟩,⟨by (with_reducible repeat (first | apply Kd.Zj | apply Kd.Zi | apply Kd.Zm));exact HO_8.out⟩,⟨by (with_reducible repeat (first | apply Kd.Xe | apply Kd.Xf | apply Kd.Xj));exact Kd.Qp HO_11.out (fun _ hk => hk.2)⟩,⟨by (with_reducible repeat (first | apply Kd.Zj | apply Kd.Zi | apply Kd.Zm));exact Kd.ZE HO349.out (fun _ hk => trivial)⟩,⟨by repeat (first | (with_reducible first | exact HB.out | apply Zf | apply Za | apply Zd) | exact HB.out)⟩⟩
                  · rw [if_neg c98] at H
                    exact absurd H (by simp)
                · rw [if_neg c97] at H
                  exact absurd H (by simp)
              · rw [if_neg c95] at H
                have c95b0 : decide (0 < (x11_2.length : Int)) = false := decide_eq_false c95;have c95b1 : decide (0 < x11_2.length) = false := decide_eq_false (by omega);clear c95
                (first | rw [c95b0] | (simp only [i64_w,i32_w];rw [c95b0]) | skip)
                have H' := Zb.mk H;clear H
                go_wp2
                go_meet
                case rel => exact ⟨_,(false),(by first | rfl | (simp;done) | (simp [*];done)),H',⟨by have := HK1.out;have := HK2.out;have := HK3.out;first | omega | exact Nat.le_refl _⟩,⟨by (with_reducible repeat (first | apply Kd.Zj | apply Kd.Zi | apply Kd.Zm));exact HO_7.out⟩,⟨by (with_reducible repeat (first | apply Kd.Zj | apply Kd.Zi | apply Kd.Zm));exact HO_8.out⟩,⟨by (with_reducible repeat (first | apply Kd.Xe | apply Kd.Xf | apply Kd.Xj));exact Kd.Qp HO_11.out (fun _ hk => hk.2)⟩,⟨by (with_reducible repeat (first | apply Kd.Zj | apply Kd.Zi | apply Kd.Zm));exact Kd.ZE HO349.out (fun _ hk => trivial)⟩,⟨by repeat (first | (with_reducible first | exact HB.out | apply Zf | apply Za | apply Zd) | exact HB.out)⟩⟩
             case rest => as_aux_lemma =>
              clear HC90
              (try clear c1); (try clear p2); (try clear c3); (try clear p3); (try clear q3); (try clear hx3); (try clear c5); (try clear c6); (try clear p6); (try clear c7); (try clear c8); (try clear c9); (try clear c11); (try clear p31); (try clear q31); (try clear hx31); (try clear p33); (try clear q33); (try clear hx33); (try clear p34); (try clear q34); (try clear hx34); (try clear c35); (try clear p35); (try clear q35); (try clear hx35); (try clear c50); (try clear c50b0); (try clear c52); (try clear c52b0); (try clear c53); (try clear c54); (try clear c55); (try clear c56); (try clear c63); (try clear c64); (try clear p64); (try clear c65); (try clear c65b0); (try clear c65b1); (try clear c66); (try clear c66b0); (try clear c66b1); (try clear c67); (try clear c67b0); (try clear c67b1); (try clear c68); (try clear c68b0); (try clear c68b1); (try clear c69); (try clear c70); (try clear c71); (try clear c71b0); (try clear c71b1); (try clear c72); (try clear c72b0); (try clear c72b1); (try clear c73); (try clear c73b0); (try clear c73b1); (try clear c74); (try clear c75); (try clear c76); (try clear c76b0); (try clear c77); (try clear c77b0); (try clear c78); (try clear c78b0); (try clear c79); (try clear c79b0); (try clear c81); (try clear c81b0); (try clear c82); (try clear c82b0); (try clear c84); (try clear c84b0); (try clear c85); (try clear c85b0); (try clear c86); (try clear c95); (try clear c95b0); (try clear c95b1); (try clear c97); (try clear c97b0); (try clear c98); (try clear c98b0); (try clear hcz30_0); (try clear hcz30_1); (try clear hcz30_2); (try clear hcz30_3); (try clear hfz30_0); (try clear hfz30_1); (try clear hfz30_2); (try clear hfz30_3); (try clear hx313_0); (try clear hx313_1); (try clear hx313_2); (try clear hx313_3); (try clear hx332_0); (try clear hx333_0); (try clear hx335_0); (try clear hx336_0); (try clear hx338_0); (try clear hx339_0); (try clear hx340_0); (try clear hx341_0); (try clear hx342_0); (try clear hx343_0); (try clear hx350_0); (try clear p2); (try clear p3); (try clear p31); (try clear p313); (try clear p332); (try clear p333); (try clear p335); (try clear p336); (try clear p338); (try clear p339); (try clear p340); (try clear p341); (try clear p342); (try clear p343); (try clear p350); (try clear p6); (try clear p64); (try clear q3); (try clear q31); (try clear q313); (try clear q332); (try clear q333); (try clear q335); (try clear q336); (try clear q338); (try clear q339); (try clear q340); (try clear q341); (try clear q342); (try clear q343); (try clear q350)
              obtain ⟨kq,x179_89,rfl,HA,HJ89,HO_7,HO_8,HO_11,HO_13,HB⟩ := hcut
              cases kq with
              | zero => exact absurd HA.out (by simp [Zc.j4])
              | succ kj89 =>
               have H := HA.out;clear HA;simp only [Zc.j4] at H
               by_cases c101 : x179_89 = true
               · subst c101
                 have H1 : (Zc.l3 kj89 l0 l1 a2 t326 t329 x11_2 x12_2 t347 (x11_2.length : Int) 0) = some r := by rw [if_pos rfl] at H;exact H
                 clear H;have H := H1;clear H1;have H' := Zb.mk H;clear H
                 go_wp2
                 go_loopg [18] kj89 (fun kq v18 w' => ∃ (x11_5 : List (List (S43))) (x13_5 : List (S43)) (x18_5 : Int),v18 = .int .i64 x18_5 ∧ Zb (Zc.l3 kq l0 l1 a2 t326 t329 x11_5 x12_2 x13_5 (x11_2.length : Int) x18_5 = some r) ∧ Zb (kq ≤ kj89) ∧ Zb (Kd.R (Kd.int .i64) 3 w' w.heap.size (fun k_ => some k_ ≠ ((.slice Ao51 t329.length co51) : Value).ownBlock) (.slice Ao91 t326.length co91) t326) ∧ Zb (Kd.R (Kd.int .i64) 3 w' w.heap.size (fun k_ => some k_ ≠ ((.slice Ao91 t326.length co91) : Value).ownBlock) (.slice Ao51 t329.length co51) t329) ∧ Zb (Kd.S (Kd.slice 43 k43) 22 w' w.heap.size (fun k_ => some k_ ≠ (v348 : Value).ownBlock) (.slice Ao94 x11_2.length co94) x11_5) ∧ Zb (Kd.R k43 43 w' w.heap.size (fun _ => True) v348 x13_5) ∧ Zb (Below w.heap.size w w'))
                 case atStart => exact ⟨(x11_2),(t347),(0),(by first | rfl | (simp;done) | (simp [*];done)),H',⟨Nat.le_refl _⟩,⟨by (with_reducible repeat (first | apply Kd.Zj | apply Kd.Zi | apply Kd.Zm));exact HO_7.out⟩,⟨by (with_reducible repeat (first | apply Kd.Zj | apply Kd.Zi | apply Kd.Zm));exact HO_8.out⟩,⟨by (with_reducible repeat (first | apply Kd.Xe | apply Kd.Xf | apply Kd.Xj));exact HO_11.out⟩,⟨by (with_reducible repeat (first | apply Kd.Zj | apply Kd.Zi | apply Kd.Zm));exact HO_13.out⟩,⟨by repeat (first | (with_reducible first | exact HB.out | apply Zf | apply Za | apply Zd) | exact HB.out)⟩⟩
                 case round =>
                  clear H'
                  (try clear c1); (try clear p2); (try clear c3); (try clear p3); (try clear q3); (try clear hx3); (try clear c5); (try clear c6); (try clear p6); (try clear c7); (try clear c8); (try clear c9); (try clear c10); (try clear c11); (try clear p31); (try clear q31); (try clear hx31); (try clear p33); (try clear q33); (try clear hx33); (try clear p34); (try clear q34); (try clear hx34); (try clear c35); (try clear p35); (try clear q35); (try clear hx35); (try clear c50); (try clear c50b0); (try clear c52); (try clear c52b0); (try clear c53); (try clear c54); (try clear c55); (try clear c56); (try clear c63); (try clear c64); (try clear p64); (try clear c65); (try clear c65b0); (try clear c65b1); (try clear c66); (try clear c66b0); (try clear c66b1); (try clear c67); (try clear c67b0); (try clear c67b1); (try clear c68); (try clear c68b0); (try clear c68b1); (try clear c69); (try clear c70); (try clear c71); (try clear c71b0); (try clear c71b1); (try clear c72); (try clear c72b0); (try clear c72b1); (try clear c73); (try clear c73b0); (try clear c73b1); (try clear c74); (try clear c75); (try clear c76); (try clear c76b0); (try clear c77); (try clear c77b0); (try clear c78); (try clear c78b0); (try clear c79); (try clear c79b0); (try clear c81); (try clear c81b0); (try clear c82); (try clear c82b0); (try clear c84); (try clear c84b0); (try clear c85); (try clear c85b0); (try clear c86); (try clear c95); (try clear c95b0); (try clear c95b1); (try clear c97); (try clear c97b0); (try clear c98); (try clear c98b0); (try clear c101); (try clear hcz30_0); (try clear hcz30_1); (try clear hcz30_2); (try clear hcz30_3); (try clear hfz30_0); (try clear hfz30_1); (try clear hfz30_2); (try clear hfz30_3); (try clear hx313_0); (try clear hx313_1); (try clear hx313_2); (try clear hx313_3); (try clear hx332_0); (try clear hx333_0); (try clear hx335_0); (try clear hx336_0); (try clear hx338_0); (try clear hx339_0); (try clear hx340_0); (try clear hx341_0); (try clear hx342_0); (try clear hx343_0); (try clear hx350_0); (try clear p2); (try clear p3); (try clear p31); (try clear p313); (try clear p33); (try clear p332); (try clear p333); (try clear p335); (try clear p336); (try clear p338); (try clear p339); (try clear p34); (try clear p340); (try clear p341); (try clear p342); (try clear p343); (try clear p35); (try clear p350); (try clear p6); (try clear p64); (try clear q3); (try clear q31); (try clear q313); (try clear q33); (try clear q332); (try clear q333); (try clear q335); (try clear q336); (try clear q338); (try clear q339); (try clear q34); (try clear q340); (try clear q341); (try clear q342); (try clear q343); (try clear q35); (try clear q350)
                  obtain ⟨x11_5,x13_5,x18_5,rfl,HA,HK5,HO_7,HO_8,HO_11,HO_13,HB⟩ := hrel;have hl11_5 := (Kd.Qd HO_11.out).1;rw [hl11_5] at HO_11
                  (try simp only [hl11_5])
                  (try simp only [hl11_5] at HO_7)
                  (try simp only [hl11_5] at HO_8)
                  (try simp only [hl11_5] at HO_13)
                  cases gk with
                  | zero => exact absurd HA.out (by simp [Zc.l3])
                  | succ k5 =>
                   have H := HA.out;clear HA;simp only [Zc.l3] at H
                   by_cases c102 : x18_5 < (x13_5.length : Int)
                   · rw [if_pos c102] at H
                     have c102b0 : decide (x18_5 < (x13_5.length : Int)) = true := decide_eq_true c102;clear c102
                     obtain ⟨ji103,hji103⟩ : ∃ j_ : Int,(wrap64 ((x11_2.length : Int) - 1)) = j_ := ⟨_,rfl⟩
                     replace H : (if 0 ≤ (ji103) then (if (ji103) < (x11_5.length : Int) then (if 0 ≤ x18_5 then (if x18_5 < ((rd_L2 x11_5 (ji103)).length : Int) then (Zc.l3 k5 l0 l1 a2 t326 t329 (x11_5.set ((ji103) : Int).toNat ((rd_L2 x11_5 (ji103)).set (x18_5 : Int).toNat (⟨(Ze (rd_L2 x11_5 (ji103)) x18_5).f0,(Ze (rd_L2 x11_5 (ji103)) x18_5).f1,(Ze (rd_L2 x11_5 (ji103)) x18_5).f2,wrap64 (((Ze (rd_L2 x11_5 (ji103)) x18_5).f3) + ((Ze x13_5 x18_5).f3))⟩ : S43))) x12_2 x13_5 (x11_2.length : Int) (wrap64 (x18_5 + 1))) else (none)) else (none)) else (none)) else (none)) = some r := by first | (rw [hji103] at H;exact H) | (simp only [hji103] at H ⊢;exact H)
                     have hji103w : (IntKind.i64.wrap ((x11_2.length : Int) - 1)) = ji103 := (i64_w _).trans hji103
                     have hj2_ : wrap64 ((x11_5.length : Int) - 1) = ji103 := by have e_ := (Kd.Qd HO_11.out).1;have e2_ : (x11_2.length : Int) = (x11_5.length : Int) := (by omega);rw [e2_] at hji103;exact hji103
                     have hj3_ : IntKind.i64.wrap ((x11_5.length : Int) - 1) = ji103 := (i64_w _).trans hj2_
                     by_cases c104 : 0 ≤ (ji103)
                     · rw [if_pos c104] at H
                       have c104b0 : decide (0 ≤ (ji103)) = true := decide_eq_true c104;clear c104
                       by_cases c105 : (ji103) < (x11_5.length : Int)
                       · rw [if_pos c105] at H
                         have c105b0 : decide ((ji103) < (x11_5.length : Int)) = true := decide_eq_true c105;clear c105
                         by_cases c106 : 0 ≤ x18_5
                         · rw [if_pos c106] at H
                           have c106b0 : decide (0 ≤ x18_5) = true := decide_eq_true c106;clear c106
                           by_cases c107 : x18_5 < ((rd_L2 x11_5 (ji103)).length : Int)
                           · rw [if_pos c107] at H
                             have c107b0 : decide (x18_5 < ((rd_L2 x11_5 (ji103)).length : Int)) = true := decide_eq_true c107;clear c107
                             obtain ⟨y355,hy355⟩ : ∃ y_ : List (S43),y_ = ((rd_L2 x11_5 (ji103)).set (x18_5 : Int).toNat (⟨(Ze (rd_L2 x11_5 (ji103)) x18_5).f0,(Ze (rd_L2 x11_5 (ji103)) x18_5).f1,(Ze (rd_L2 x11_5 (ji103)) x18_5).f2,wrap64 (((Ze (rd_L2 x11_5 (ji103)) x18_5).f3) + ((Ze x13_5 x18_5).f3))⟩ : S43)) := ⟨_,rfl⟩
                             replace H : (Zc.l3 k5 l0 l1 a2 t326 t329 (x11_5.set ((ji103) : Int).toNat y355) x12_2 x13_5 (x11_2.length : Int) (wrap64 (x18_5 + 1))) = some r := by first | (rw [hy355];with_reducible exact H) | (have H2_ := (Option.bind_some _ _).symm.trans H;rw [hy355];with_reducible exact H2_) | (have H2_ := (Option.bind_some _ _).symm.trans H;with_reducible exact H2_) | with_reducible exact H | (rw [hy355];exact H) | exact H
                             have Ny355 := Zb.mk hy355;clear hy355
                             obtain ⟨y357,hy357⟩ : ∃ y_ : List (List (S43)),y_ = (x11_5.set ((ji103) : Int).toNat y355) := ⟨_,rfl⟩
                             replace H : (Zc.l3 k5 l0 l1 a2 t326 t329 y357 x12_2 x13_5 (x11_2.length : Int) (wrap64 (x18_5 + 1))) = some r := by first | (rw [hy357];with_reducible exact H) | (have H2_ := (Option.bind_some _ _).symm.trans H;rw [hy357];with_reducible exact H2_) | (have H2_ := (Option.bind_some _ _).symm.trans H;with_reducible exact H2_) | with_reducible exact H | (rw [hy357];exact H) | exact H
                             have Ny357 := Zb.mk hy357;clear hy357;have H' := Zb.mk H;clear H;obtain ⟨Ao109,co109,eo109⟩ := Kd.ZS HO_13.out;subst eo109
                             try go_wp2
                             have n0_ := Zb.mk (Kd.Zm HO_7.out);have n1_ := Zb.mk (Kd.Zm HO_8.out);have n2_ := Zb.mk (Kd.Xj HO_11.out);have n3_ := Zb.mk (Kd.Zm HO_13.out);have n4_ := Zb.mk (Zd HB.out);clear HO_7;clear HO_8;clear HO_11;clear HO_13;clear HB;have HO_7 := n0_;have HO_8 := n1_;have HO_11 := n2_;have HO_13 := n3_;have HB := n4_;clear n0_ n1_ n2_ n3_ n4_;have p352 : 0 ≤ ((ji103) : Int) := of_decide_eq_true (by first | (with_reducible assumption) | assumption);have q352 : (ji103) < (x11_5.length : Int) := of_decide_eq_true (by first | (with_reducible assumption) | assumption);obtain ⟨ad352,A352_0,c352_0,e352,hx352_0,hl352_0,hi352_0⟩ := at_L2 (Kd.Qd HO_11.out).2.2 (ji103) p352 q352
                             cases e352
                             obtain ⟨ce352,hce352,hMe352,hcc352⟩ := Kd.S_get HO_11.out [] (ji103) p352 (by first | exact q352 | exact of_decide_eq_true (by first | (with_reducible assumption) | assumption) | (have e_ := (Kd.Qd HO_11.out).1;omega));obtain ⟨ve352_0,rfl,ge352_0⟩ := hMe352;have hv352_0 := hcc352 0 _ rfl;rw [Nat.add_zero,show ((Kd.slice 43 k43)).sz = 1 from rfl,Nat.mul_one] at hv352_0;replace hv352_0 := Option.some.inj (hv352_0.symm.trans hx352_0);rw [hv352_0] at ge352_0;have HL352_0 := Zb.mk (show Kd.R k43 43 _ _ _ _ (rd_L2 x11_5 (ji103)) from ge352_0);clear hv352_0 ge352_0;have HX352_0 := Zb.mk hx352_0;clear hcc352 hce352;have HR352_0 := Zb.mk hi352_0;have HC352_0 := Zb.mk hl352_0;clear hi352_0 hl352_0;replace p352 := eq_true p352;replace q352 := eq_true q352;have p353 : 0 ≤ (x18_5 : Int) := of_decide_eq_true (by first | (with_reducible assumption) | assumption);have q353 : x18_5 < ((rd_L2 x11_5 (ji103)).length : Int) := of_decide_eq_true (by first | (with_reducible assumption) | assumption);obtain ⟨ad353,e353,hx353_0,hx353_1,hx353_2,hx353_3⟩ := Z4 (by repeat (first | (with_reducible exact HR352_0.out) | (with_reducible refine Kd.Z9 ?_ _) | (with_reducible refine Kd.ZA ?_ _) | (with_reducible refine Kd.ZO ?_) | exact HR352_0.out)) x18_5 p353 q353
                             cases e353
                             replace p353 := eq_true p353;replace q353 := eq_true q353;have p354 : 0 ≤ (x18_5 : Int) := of_decide_eq_true (by first | (with_reducible assumption) | assumption);have q354 : x18_5 < (x13_5.length : Int) := of_decide_eq_true (by first | (with_reducible assumption) | assumption);obtain ⟨ad354,e354,hx354_0,hx354_1,hx354_2,hx354_3⟩ := Z4 (Kd.Z3 HO_13.out).2.2 x18_5 p354 q354
                             cases e354
                             replace p354 := eq_true p354;replace q354 := eq_true q354;have p108 : 0 ≤ (x18_5 : Int) := of_decide_eq_true (by first | (with_reducible assumption) | assumption);have q108 : (x18_5 : Int) < (((rd_L2 x11_5 (ji103)).length : Int) : Int) := of_decide_eq_true (by first | (with_reducible assumption) | assumption);obtain ⟨go108,co108,eo108,gb108,gl108,cl108,HG108⟩ := Kd.JA HL352_0.out (by omega)
                             (first | cases eo108 | (injection eo108 with ea_ en_ ec_;(first | subst ea_ | (injection ea_ with ea_;subst ea_));subst ec_;clear en_))
                             have GB108 := Zb.mk gb108;have GG108 := Zb.mk HG108;clear gb108 gl108 HG108
                             (first | simp only [ZT] at hx353_0 | skip)
                             (first | simp only [ZT] at hx353_1 | skip)
                             (first | simp only [ZT] at hx353_2 | skip)
                             (first | simp only [ZT] at hx353_3 | skip)
                             obtain ⟨ce108,hcl108,hM108,hcc108,hfr108⟩ := Kd.Qr HL352_0.out z43 (x18_5 : Int) p108 q108;obtain rfl := XQ hM108;have hx108_0 : World.cell? _ ⟨go108,(x18_5 : Int).toNat * 4,none⟩ = some (.int .i64 ((Ze (rd_L2 x11_5 (ji103)) x18_5).f0)) := hcc108 0 _ rfl;have hx108_1 : World.cell? _ ⟨go108,(x18_5 : Int).toNat * 4 + 1,none⟩ = some (.int .i64 ((Ze (rd_L2 x11_5 (ji103)) x18_5).f1)) := hcc108 1 _ rfl;have hx108_2 : World.cell? _ ⟨go108,(x18_5 : Int).toNat * 4 + 2,none⟩ = some (.int .i64 ((Ze (rd_L2 x11_5 (ji103)) x18_5).f2)) := hcc108 2 _ rfl;have hx108_3 : World.cell? _ ⟨go108,(x18_5 : Int).toNat * 4 + 3,none⟩ = some (.int .i64 ((Ze (rd_L2 x11_5 (ji103)) x18_5).f3)) := hcc108 3 _ rfl;have hf108_0 : World.frozen? _ ⟨go108,(x18_5 : Int).toNat * 4,none⟩ = false := hfr108 0;have hf108_1 : World.frozen? _ ⟨go108,(x18_5 : Int).toNat * 4 + 1,none⟩ = false := hfr108 1;have hf108_2 : World.frozen? _ ⟨go108,(x18_5 : Int).toNat * 4 + 2,none⟩ = false := hfr108 2;have hf108_3 : World.frozen? _ ⟨go108,(x18_5 : Int).toNat * 4 + 3,none⟩ = false := hfr108 3;clear hcl108 hcc108 hfr108 hM108;replace p108 := eq_true p108;replace q108 := eq_true q108
                             have hq111 : ((ji103) : Int) < (x11_5.length : Int) := (by have h_ : ((ji103) : Int) < ((x11_5.length : Int) : Int) := of_decide_eq_true (by first | (with_reducible assumption) | assumption);first | exact h_ | (have e_ := (Kd.Qd HO_11.out).1;omega) | simpa only [List.length_set,List.length_set] using h_)
                             obtain ⟨oki111,ce111,hcl111,hM111,hcc111,hok111,hbk111⟩ := Kd.S_borrow HO_11.out [] ((ji103) : Int) (of_decide_eq_true (by first | (with_reducible assumption) | assumption)) hq111;obtain ⟨ve111_0,rfl,ge111_0⟩ := hM111;have hv111 := hcc111 0 _ rfl;rw [Nat.add_zero,show ((Kd.slice 43 k43)).sz = 1 from rfl,Nat.mul_one] at hv111;replace hv111 := Option.some.inj (hv111.symm.trans HX352_0.out);subst hv111;clear hcc111 hcl111
                             replace ge111_0 := (show Kd.R k43 43 _ _ _ _ (rd_L2 x11_5 (ji103)) from ge111_0)
                             obtain ⟨cf111,hcl111,hN111,hcc111,hfr111⟩ := Kd.Qr ge111_0 z43 (x18_5 : Int) (of_decide_eq_true (by first | (with_reducible assumption) | assumption)) (by have h_ : (x18_5 : Int) < (((rd_L2 x11_5 (ji103)).length : Int) : Int) := of_decide_eq_true (by first | (with_reducible assumption) | assumption);first | exact h_ | (have e_ := (Kd.Z3 HR352_0.out).1;omega) | simpa using h_);obtain rfl := XQ hN111;have HP111 := Kd.R_seg ge111_0 (x18_5 : Int) (of_decide_eq_true (by first | (with_reducible assumption) | assumption)) (by have h_ : (x18_5 : Int) < (((rd_L2 x11_5 (ji103)).length : Int) : Int) := of_decide_eq_true (by first | (with_reducible assumption) | assumption);first | exact h_ | (have e_ := (Kd.Z3 HR352_0.out).1;omega) | simpa using h_) (seg := [.int .i64 (wrap64 (((Ze (rd_L2 x11_5 (ji103)) x18_5).f3) + ((Ze x13_5 x18_5).f3)))]) (j := 3) hcl111 hcc111 (show 4 ≤ 4 from by decide) (x' := (⟨(Ze (rd_L2 x11_5 (ji103)) x18_5).f0,(Ze (rd_L2 x11_5 (ji103)) x18_5).f1,(Ze (rd_L2 x11_5 (ji103)) x18_5).f2,wrap64 (((Ze (rd_L2 x11_5 (ji103)) x18_5).f3) + ((Ze x13_5 x18_5).f3))⟩ : S43)) (Xs _ _ _ (⟨(Ze (rd_L2 x11_5 (ji103)) x18_5).f0,(Ze (rd_L2 x11_5 (ji103)) x18_5).f1,(Ze (rd_L2 x11_5 (ji103)) x18_5).f2,wrap64 (((Ze (rd_L2 x11_5 (ji103)) x18_5).f3) + ((Ze x13_5 x18_5).f3))⟩ : S43)) (fun _ hk => hk);clear hcl111 hcc111 hfr111 hN111;rw [← Ny355.out] at HP111;have HS111 := hbk111 HP111.2 (fun k_ e_ => by injection e_ with e_;subst e_;exact ge111_0.1 _ rfl) (x' := y355) (Kd.M_row HP111.1);rw [← Ny357.out] at HS111;have HQ111 := Zb.mk HS111;clear HP111 HS111 hbk111 hok111;refine Qn (n := 18) (S := fun w' => w'.cell? (ad352.add ((ji103)).toNat) = some (.slice (some ⟨go108,0,none⟩) (rd_L2 x11_5 (ji103)).length c352_0) ∧ w'.cell? ⟨go108,((x18_5).toNat * 4),none⟩ = some (.int .i64 ((Ze (rd_L2 x11_5 (ji103)) x18_5).f0)) ∧ w'.cell? ⟨go108,((x18_5).toNat * 4) + 1,none⟩ = some (.int .i64 ((Ze (rd_L2 x11_5 (ji103)) x18_5).f1)) ∧ w'.cell? ⟨go108,((x18_5).toNat * 4) + 2,none⟩ = some (.int .i64 ((Ze (rd_L2 x11_5 (ji103)) x18_5).f2)) ∧ w'.cell? ⟨go108,((x18_5).toNat * 4) + 3,none⟩ = some (.int .i64 ((Ze (rd_L2 x11_5 (ji103)) x18_5).f3)) ∧ w'.cell? (ad354.add ((x18_5).toNat * 4)) = some (.int .i64 ((Ze x13_5 x18_5).f0)) ∧ w'.cell? ⟨(ad354.add ((x18_5).toNat * 4)).block,(ad354.add ((x18_5).toNat * 4)).off + 1,none⟩ = some (.int .i64 ((Ze x13_5 x18_5).f1)) ∧ w'.cell? ⟨(ad354.add ((x18_5).toNat * 4)).block,(ad354.add ((x18_5).toNat * 4)).off + 2,none⟩ = some (.int .i64 ((Ze x13_5 x18_5).f2)) ∧ w'.cell? ⟨(ad354.add ((x18_5).toNat * 4)).block,(ad354.add ((x18_5).toNat * 4)).off + 3,none⟩ = some (.int .i64 ((Ze x13_5 x18_5).f3))) (ds := [17]) #[Z,Z,Z,Z,Z,Z,Z,Z,Z,Z,Z,Z,Z,Z,Z,Z,Z,Z] (by kernel_rfl) rfl rfl ⟨hx352_0,hx353_0,hx353_1,hx353_2,hx353_3,hx354_0,hx354_1,hx354_2,hx354_3⟩ (fun hHeld => ?_);refine XC Zc.tab28 Zc.bits28 (fun HT_ HW_ => ?_);generalize wr.drew = w110 at HO_7 HO_8 HO_11 HO_13 HB GG108 HL352_0 HQ111 HR352_0 HX352_0 hf108_0 hf108_1 hf108_2 hf108_3 hx108_0 hx108_1 hx108_2 hx108_3 hx352_0 hx353_0 hx353_1 hx353_2 hx353_3 hx354_0 hx354_1 hx354_2 hx354_3 hHeld ⊢;refine pure_ (i := 0) (N := some 186) (v := ?_) (a' := ?_) #[U,Z,Z,Z,Z,Z,Z,Z,Z,Z,Z,Z,Z,Z,Z,Z,Z,Z] rfl rfl (Zs HT_.out (by kernel_rfl)) (fun _ _ _ h => h) (Or.inl ⟨by rfl,?_⟩) ?_ ?_;rotate_left
                             · intro w'
                               go_simp;with_reducible rfl
                             rotate_left
                             · simp only [Act.put,V9,VA,VB,i64_w,i32_w]
                               rfl
                             refine pure_ (i := 1) (N := some 187) (v := ?_) (a' := ?_) #[U,U,Z,Z,Z,Z,Z,Z,Z,Z,Z,Z,Z,Z,Z,Z,Z,Z] rfl rfl (Zs HT_.out (by kernel_rfl)) (fun _ _ _ h => h) (Or.inl ⟨by rfl,?_⟩) ?_ ?_;rotate_left
                             · intro w'
                               go_simp;with_reducible rfl
                             rotate_left
                             · simp only [Act.put,V9,VA,VB,i64_w,i32_w]
                               rfl
                             refine pure_ (i := 2) (N := some 188) (v := ?_) (a' := ?_) #[U,U,U,Z,Z,Z,Z,Z,Z,Z,Z,Z,Z,Z,Z,Z,Z,Z] rfl rfl (Zs HT_.out (by kernel_rfl)) (fun _ _ _ h => h) (Or.inl ⟨by rfl,?_⟩) ?_ ?_;rotate_left
                             · intro w'
                               go_simp;with_reducible rfl
                             rotate_left
                             · simp only [Act.put,V9,VA,VB,i64_w,i32_w]
                               rfl
                             refine pure_ (i := 3) (N := some 189) (v := ?_) (a' := ?_) #[U,U,U,U,Z,Z,Z,Z,Z,Z,Z,Z,Z,Z,Z,Z,Z,Z] rfl rfl (Zs HT_.out (by kernel_rfl)) (fun _ _ _ h => h) (Or.inl ⟨by rfl,?_⟩) ?_ ?_;rotate_left
                             · intro w'
                               go_simp;with_reducible rfl
                             rotate_left
                             · simp only [Act.put,V9,VA,VB,i64_w,i32_w]
                               rfl
                             refine pure_ (i := 5) (N := some 191) (v := ?_) (a' := ?_) #[U,U,U,U,Z,U,Z,Z,Z,Z,Z,Z,Z,Z,Z,Z,Z,Z] rfl rfl (Zs HT_.out (by kernel_rfl)) (fun _ _ _ h => h) (Or.inl ⟨by rfl,?_⟩) ?_ ?_;rotate_left
                             · intro w'
                               go_simp;with_reducible rfl
                             rotate_left
                             · simp only [Act.put,V9,VA,VB,i64_w,i32_w]
                               rfl
                             refine pure_ (i := 9) (N := some 195) (v := ?_) (a' := ?_) #[U,U,U,U,Z,U,Z,Z,Z,U,Z,Z,Z,Z,Z,Z,Z,Z] rfl rfl (Zs HT_.out (by kernel_rfl)) (fun _ _ _ h => h) (Or.inl ⟨by rfl,?_⟩) ?_ ?_;rotate_left
                             · intro w'
                               go_simp;with_reducible rfl
                             rotate_left
                             · simp only [Act.put,V9,VA,VB,i64_w,i32_w]
                               rfl
                             refine pure_ (i := 10) (N := some 196) (v := ?_) (a' := ?_) #[U,U,U,U,Z,U,Z,Z,Z,U,U,Z,Z,Z,Z,Z,Z,Z] rfl rfl (Zs HT_.out (by kernel_rfl)) (fun _ _ _ h => h) (Or.inl ⟨by rfl,?_⟩) ?_ ?_;rotate_left
                             · intro w'
                               go_simp;with_reducible rfl
                             rotate_left
                             · simp only [Act.put,V9,VA,VB,i64_w,i32_w]
                               rfl
                             refine pure_ (i := 11) (N := some 197) (v := ?_) (a' := ?_) #[U,U,U,U,Z,U,Z,Z,Z,U,U,U,Z,Z,Z,Z,Z,Z] rfl rfl (Zs HT_.out (by kernel_rfl)) (fun _ _ _ h => h) (Or.inl ⟨by rfl,?_⟩) ?_ ?_;rotate_left
                             · intro w'
                               go_simp;with_reducible rfl
                             rotate_left
                             · simp only [Act.put,V9,VA,VB,i64_w,i32_w]
                               rfl
                             refine pure_ (i := 12) (N := some 198) (v := ?_) (a' := ?_) #[U,U,U,U,Z,U,Z,Z,Z,U,U,U,U,Z,Z,Z,Z,Z] rfl rfl (Zs HT_.out (by kernel_rfl)) (fun _ _ _ h => h) (Or.inl ⟨by rfl,?_⟩) ?_ ?_;rotate_left
                             · intro w'
                               go_simp;with_reducible rfl
                             rotate_left
                             · simp only [Act.put,V9,VA,VB,i64_w,i32_w]
                               rfl
                             refine take_ (i := 4) (N := some 190) (v := ?_) (a' := ?_) #[U,U,U,U,U,U,Z,Z,Z,U,U,U,U,Z,Z,Z,Z,Z] rfl rfl (ZQ HT_.out HW_.out (by kernel_rfl)) (fun _ _ _ h => h) (Or.inl ⟨by rfl,?_⟩) hHeld ?_ ?_;rotate_left
                             · rintro w' ⟨s0,s1,s2,s3,s4,s5,s6,s7,s8⟩
                               go_simp;with_reducible rfl
                             rotate_left
                             · simp only [Act.put,V9,VA,VB,i64_w,i32_w]
                               rfl
                             refine pure_ (i := 6) (N := some 192) (v := ?_) (a' := ?_) #[U,U,U,U,U,U,U,Z,Z,U,U,U,U,Z,Z,Z,Z,Z] rfl rfl (Zs HT_.out (by kernel_rfl)) (fun _ _ _ h => h) (Or.inl ⟨by rfl,?_⟩) ?_ ?_;rotate_left
                             · intro w'
                               go_simp;with_reducible rfl
                             rotate_left
                             · simp only [Act.put,V9,VA,VB,i64_w,i32_w]
                               rfl
                             refine pure_ (i := 7) (N := some 193) (v := ?_) (a' := ?_) #[U,U,U,U,U,U,U,U,Z,U,U,U,U,Z,Z,Z,Z,Z] rfl rfl (Zs HT_.out (by kernel_rfl)) (fun _ _ _ h => h) (Or.inl ⟨by rfl,?_⟩) ?_ ?_;rotate_left
                             · intro w'
                               go_simp;with_reducible rfl
                             rotate_left
                             · simp only [Act.put,V9,VA,VB,i64_w,i32_w]
                               rfl
                             refine take_ (i := 8) (N := some 194) (v := ?_) (a' := ?_) #[U,U,U,U,U,U,U,U,U,U,U,U,U,Z,Z,Z,Z,Z] rfl rfl (ZQ HT_.out HW_.out (by kernel_rfl)) (fun _ _ _ h => h) (Or.inl ⟨by rfl,?_⟩) hHeld ?_ ?_;rotate_left
                             · rintro w' ⟨s0,s1,s2,s3,s4,s5,s6,s7,s8⟩
                               go_simp;with_reducible rfl
                             rotate_left
                             · simp only [Act.put,V9,VA,VB,i64_w,i32_w]
                               rfl
                             refine take_ (i := 13) (N := some 199) (v := ?_) (a' := ?_) #[U,U,U,U,U,U,U,U,U,U,U,U,U,U,Z,Z,Z,Z] rfl rfl (ZQ HT_.out HW_.out (by kernel_rfl)) (fun _ _ _ h => h) (Or.inl ⟨by rfl,?_⟩) hHeld ?_ ?_;rotate_left
                             · rintro w' ⟨s0,s1,s2,s3,s4,s5,s6,s7,s8⟩
                               go_simp;with_reducible rfl
                             rotate_left
                             · simp only [Act.put,V9,VA,VB,i64_w,i32_w]
                               rfl
                             refine pure_ (i := 14) (N := some 200) (v := ?_) (a' := ?_) #[U,U,U,U,U,U,U,U,U,U,U,U,U,U,U,Z,Z,Z] rfl rfl (Zs HT_.out (by kernel_rfl)) (fun _ _ _ h => h) (Or.inl ⟨by rfl,?_⟩) ?_ ?_;rotate_left
                             · intro w'
                               go_simp;with_reducible rfl
                             rotate_left
                             · simp only [Act.put,V9,VA,VB,i64_w,i32_w]
                               rfl
                             refine pure_ (i := 15) (N := some 201) (v := ?_) (a' := ?_) #[U,U,U,U,U,U,U,U,U,U,U,U,U,U,U,U,Z,Z] rfl rfl (Zs HT_.out (by kernel_rfl)) (fun _ _ _ h => h) (Or.inl ⟨by rfl,?_⟩) ?_ ?_;rotate_left
                             · intro w'
                               go_simp;with_reducible rfl
                             rotate_left
                             · simp only [Act.put,V9,VA,VB,i64_w,i32_w]
                               rfl
                             refine pure_ (i := 16) (N := some 202) (v := ?_) (a' := ?_) #[U,U,U,U,U,U,U,U,U,U,U,U,U,U,U,U,U,Z] rfl rfl (Zs HT_.out (by kernel_rfl)) (fun _ _ _ h => h) (Or.inl ⟨by rfl,?_⟩) ?_ ?_;rotate_left
                             · intro w'
                               go_simp;with_reducible rfl
                             rotate_left
                             · simp only [Act.put,V9,VA,VB,i64_w,i32_w]
                               rfl
                             refine last_ (i := 17) (N := none) #[U,U,U,U,U,U,U,U,U,U,U,U,U,U,U,U,U,U] rfl rfl (XB HT_.out (by kernel_rfl)) (by decide) (fun K hK => ?_);refine skip_ (w1 := ?_) (by rfl) rfl ?_ ?_;rotate_left
                             · go_simp
                               rfl
                             refine hK.out _ _ ?_;clear hK K;refine done_ (XV HT_.out (by kernel_rfl)) ?_
                             try go_wp2
                             (try simp only [← hl11_5])
                             go_roundg k5
                             case measure => have := HK1.out;have := HK2.out;have := HK3.out;have := HJ89.out;have := HK5.out;omega
                             case rel => exact ⟨(y357),(x13_5),(wrap64 (x18_5 + 1)),(by first | rfl | (simp;done) | (simp [*];done)),H',⟨by have := HK1.out;have := HK2.out;have := HK3.out;have := HJ89.out;have := HK5.out;omega⟩,⟨by (try simp only [hl11_5]);(with_reducible repeat (first | apply Kd.Zj | apply Kd.Zi | apply Kd.Zm));exact Kd.ZE (Kd.R_far (p := ⟨go108,(x18_5 : Int).toNat * 4 + 3,none⟩) (Kd.QL HO_7.out GG108.out (by decide)) (fun _ hk => hk.2) (.int .i64 (wrap64 (((Ze (rd_L2 x11_5 (ji103)) x18_5).f3) + ((Ze x13_5 x18_5).f3))))) (fun _ hk => hk.1)⟩,⟨by (try simp only [hl11_5]);(with_reducible repeat (first | apply Kd.Zj | apply Kd.Zi | apply Kd.Zm));exact Kd.ZE (Kd.R_far (p := ⟨go108,(x18_5 : Int).toNat * 4 + 3,none⟩) (Kd.QL HO_8.out GG108.out (by decide)) (fun _ hk => hk.2) (.int .i64 (wrap64 (((Ze (rd_L2 x11_5 (ji103)) x18_5).f3) + ((Ze x13_5 x18_5).f3))))) (fun _ hk => hk.1)⟩,⟨by (try simp only [hl11_5]);(with_reducible repeat (first | apply Kd.Xe | apply Kd.Xf | apply Kd.Xj));exact HQ111.out⟩,⟨by (try simp only [hl11_5]);(with_reducible repeat (first | apply Kd.Zj | apply Kd.Zi | apply Kd.Zm));exact Kd.ZE (Kd.R_far (p := ⟨go108,(x18_5 : Int).toNat * 4 + 3,none⟩) (Kd.R_far1 HO_13.out rfl ((HL352_0.out.1 _ rfl).1)) (fun _ hk => hk.2) (.int .i64 (wrap64 (((Ze (rd_L2 x11_5 (ji103)) x18_5).f3) + ((Ze x13_5 x18_5).f3))))) (fun _ hk => trivial)⟩,⟨by repeat (first | (with_reducible first | exact HB.out | apply Zf | apply Za | apply Zd | refine Zo ?_ GB108.out) | exact HB.out)⟩⟩
                           · rw [if_neg c107] at H
                             exact absurd H (by simp)
                         · rw [if_neg c106] at H
                           exact absurd H (by simp)
                       · rw [if_neg c105] at H
                         exact absurd H (by simp)
                     · rw [if_neg c104] at H
                       exact absurd H (by simp)
                   · rw [if_neg c102] at H
                     have c102b0 : decide (x18_5 < (x13_5.length : Int)) = false := decide_eq_false c102;clear c102;have H' := Zb.mk H;clear H;obtain ⟨Ao113,co113,eo113⟩ := Kd.ZS HO_13.out;subst eo113
                     go_wp2
                     (try simp only [← hl11_5])
                     go_roundg k5
                     case measure => have := HK1.out;have := HK2.out;have := HK3.out;have := HJ89.out;have := HK5.out;omega
                     case rel => exact ⟨(x11_5),(wrap64 (x12_2 + 1)),(by first | rfl | (simp;done) | (simp [*];done)),H',⟨by have := HK1.out;have := HK2.out;have := HK3.out;have := HJ89.out;have := HK5.out;omega⟩,⟨by (try simp only [hl11_5]);(with_reducible repeat (first | apply Kd.Zj | apply Kd.Zi | apply Kd.Zm));exact HO_7.out⟩,⟨by (try simp only [hl11_5]);(with_reducible repeat (first | apply Kd.Zj | apply Kd.Zi | apply Kd.Zm));exact HO_8.out⟩,⟨by (try simp only [hl11_5]);(with_reducible repeat (first | apply Kd.Xe | apply Kd.Xf | apply Kd.Xj));exact Kd.Qp HO_11.out (fun _ hk => trivial)⟩,⟨by repeat (first | (with_reducible first | exact HB.out | apply Zf | apply Za | apply Zd) | exact HB.out)⟩⟩
               · replace c101 := Bool.eq_false_iff.mpr c101
                 subst c101
                 have H1 : (if (t347.length : Int) > 0 then (if x11_2.length < 5864062014805 then (Zc.l1 kj89 l0 l1 a2 t326 t329 (x11_2 ++ [t347]) (wrap64 (x12_2 + 1))) else (none)) else (Zc.l1 kj89 l0 l1 a2 t326 t329 x11_2 (wrap64 (x12_2 + 1)))) = some r := by rw [if_neg (show ¬ (false = true) by decide)] at H;exact H
                 clear H;have H := H1;clear H1
                 by_cases c114 : (t347.length : Int) > 0
                 · rw [if_pos c114] at H
                   have c114b0 : decide (0 < (t347.length : Int)) = true := decide_eq_true c114;have c114b1 : decide (0 < t347.length) = true := decide_eq_true (by omega);clear c114
                   by_cases c115 : x11_2.length < 5864062014805
                   · rw [if_pos c115] at H
                     have LMc115 := Zb.mk c115;clear c115
                     obtain ⟨y358,hy358⟩ : ∃ y_ : List (List (S43)),y_ = (x11_2 ++ [t347]) := ⟨_,rfl⟩
                     replace H : (Zc.l1 kj89 l0 l1 a2 t326 t329 y358 (wrap64 (x12_2 + 1))) = some r := by first | (rw [hy358];with_reducible exact H) | (have H2_ := (Option.bind_some _ _).symm.trans H;rw [hy358];with_reducible exact H2_) | (have H2_ := (Option.bind_some _ _).symm.trans H;with_reducible exact H2_) | with_reducible exact H | (rw [hy358];exact H) | exact H
                     have Ny358 := Zb.mk hy358;clear hy358;have H' := Zb.mk H;clear H;obtain ⟨Ao116,co116,eo116⟩ := Kd.ZS HO_13.out;subst eo116
                     go_wp2_with (first | ((with_reducible refine Qq (b := .append) (xs := #[.tmp 206,.tmp 208]) rfl ?_);at_builtin;refine Kd.S_append (Kd.slice 43 k43) (w0 := w) w.heap.size rfl (.tmp 206) (.tmp 208) 131 22 (.slice none 0 0) 24 rfl Try.underlying131 info22 rfl (by decide) (by omega) (.slice Ao94 x11_2.length co94) x11_2 t347 [.slice Ao116 t347.length co116] (fun _ => True) (fun k_ => some k_ = (.slice Ao116 t347.length co116 : Value).ownBlock) rfl rfl ?aP (fun k_ hk_ => ((Kd.ZE (ok' := fun k_ => ((fun _ => True)) k_ ∧ some k_ ≠ (.slice Ao94 x11_2.length co94 : Value).ownBlock) (Kd.JJ (HO_13.out) (Kd.Y8 HO_11.out) (by decide)) (fun k_ hk => ⟨trivial,hk.2⟩))).1 k_ hk_.symm) ?aF ?aO ?aB ?aS ?aL ?_;(case aP => exact Kd.M_row (Kd.ZE (Kd.Y6 rfl (Kd.ZE (ok' := fun k_ => ((fun _ => True)) k_ ∧ some k_ ≠ (.slice Ao94 x11_2.length co94 : Value).ownBlock) (Kd.JJ (HO_13.out) (Kd.Y8 HO_11.out) (by decide)) (fun k_ hk => ⟨trivial,hk.2⟩))) (fun _ h_ => h_)));(case aB => exact (by repeat (first | (with_reducible first | exact HB.out | apply Zf | apply Za | apply Zd) | exact HB.out)));(case aF => exact (fun _ _ => trivial));(case aO => exact (by (with_reducible repeat (first | apply Kd.Xe | apply Kd.Xf | apply Kd.Xj));exact Kd.Qp HO_11.out (fun k_ hk => ⟨trivial,fun e_ => hk e_⟩)));(case aS => exact (Zp (by repeat (first | (with_reducible first | exact HB.out | apply Zf | apply Za | apply Zd) | exact HB.out))));(case aL => have := LMc115.out;omega);intro v359 w117 ho hb hg hat;rw [← Ny358.out] at ho;have n0_ := Zb.mk (Kd.Y5 (by (with_reducible repeat (first | apply Kd.Zj | apply Kd.Zi | apply Kd.Zm));exact HO_7.out) (Kd.Y8 (by (with_reducible repeat (first | apply Kd.Xe | apply Kd.Xf | apply Kd.Xj));exact HO_11.out)) (by decide) hg);have n1_ := Zb.mk (Kd.Y5 (by (with_reducible repeat (first | apply Kd.Zj | apply Kd.Zi | apply Kd.Zm));exact HO_8.out) (Kd.Y8 (by (with_reducible repeat (first | apply Kd.Xe | apply Kd.Xf | apply Kd.Xj));exact HO_11.out)) (by decide) hg);have n2_ := Zb.mk (hb);have n3_ := Zb.mk (ho);clear HO_7;clear HO_8;clear HB;clear HO_11;clear HO_13;have HO_7 := n0_;have HO_8 := n1_;have HB := n2_;have HO360 := n3_;clear n0_ n1_ n2_ n3_;clear ho hb hg hat))
                     go_roundg kj89
                     case measure => have := HK1.out;have := HK2.out;have := HK3.out;have := HJ89.out;omega
                     case rel => exact ⟨(y358),(wrap64 (x12_2 + 1)),(by first | rfl | (simp;done) | (simp [*];done)),H',⟨by have := HK1.out;have := HK2.out;have := HK3.out;have := HJ89.out;omega⟩,⟨by (with_reducible repeat (first | apply Kd.Zj | apply Kd.Zi | apply Kd.Zm));exact HO_7.out⟩,⟨by (with_reducible repeat (first | apply Kd.Zj | apply Kd.Zi | apply Kd.Zm));exact HO_8.out⟩,⟨by (with_reducible repeat (first | apply Kd.Xe | apply Kd.Xf | apply Kd.Xj));exact HO360.out⟩,⟨by repeat (first | (with_reducible first | exact HB.out | apply Zf | apply Za | apply Zd) | exact HB.out)⟩⟩
                   · rw [if_neg c115] at H
                     exact absurd H (by simp)
                 · rw [if_neg c114] at H
                   have c114b0 : decide (0 < (t347.length : Int)) = false := decide_eq_false c114;have c114b1 : decide (0 < t347.length) = false := decide_eq_false (by omega);clear c114;have H' := Zb.mk H;clear H;obtain ⟨Ao118,co118,eo118⟩ := Kd.ZS HO_13.out;subst eo118
                   go_wp2
                   go_roundg kj89
                   case measure => have := HK1.out;have := HK2.out;have := HK3.out;have := HJ89.out;omega
                   case rel => exact ⟨(x11_2),(wrap64 (x12_2 + 1)),(by first | rfl | (simp;done) | (simp [*];done)),H',⟨by have := HK1.out;have := HK2.out;have := HK3.out;have := HJ89.out;omega⟩,⟨by (with_reducible repeat (first | apply Kd.Zj | apply Kd.Zi | apply Kd.Zm));exact HO_7.out⟩,⟨by (with_reducible repeat (first | apply Kd.Zj | apply Kd.Zi | apply Kd.Zm));exact HO_8.out⟩,⟨by (with_reducible repeat (first | apply Kd.Xe | apply Kd.Xf | apply Kd.Xj));exact Kd.Qp HO_11.out (fun _ hk => trivial)⟩,⟨by repeat (first | (with_reducible first | exact HB.out | apply Zf | apply Za | apply Zd) | exact HB.out)⟩⟩
       · rw [if_neg c50] at H
         have c50b0 : decide ((wrap64 (x12_2 + 1)) < (t329.length : Int)) = false := decide_eq_false c50;clear c50;have H' := Zb.mk H;clear H;obtain ⟨Ao119,co119,eo119⟩ := Kd.ZS HO_8.out;subst eo119
         go_wp2
         go_loopg [19,20] k2 (fun kq v19 v20 w' => ∃ (x19_3 : List (S43)) (x20_3 : Int),v20 = .int .i64 x20_3 ∧ Zb (Zc.l4 kq x11_2 x19_3 x20_3 = some r) ∧ Zb (kq ≤ k2) ∧ Zb (Kd.S (Kd.slice 43 k43) 22 w' w.heap.size (fun k_ => some k_ ≠ (v19 : Value).ownBlock) u11 x11_2) ∧ Zb (Kd.R k43 43 w' w.heap.size (fun _ => True) v19 x19_3) ∧ Zb (Below w.heap.size w w'))
         case atStart => exact ⟨(([] : List (S43))),(0),(by first | rfl | (simp;done) | (simp [*];done)),H',⟨Nat.le_refl _⟩,⟨by (with_reducible repeat (first | apply Kd.Xe | apply Kd.Xf | apply Kd.Xj));exact Kd.Qp HO_11.out (fun _ hk => (by simp [Value.ownBlock]))⟩,⟨by first | exact Kd.R_nil _ _ _ _ _ | exact Kd.N_nil _ _ _ _ _ | exact Kd.V_nil _ _ _ _ _ | exact Kd.Q_nil _ _ _ _ _ | exact Kd.S_nil _ _ _ _ _⟩,⟨by repeat (first | (with_reducible first | exact HB.out | apply Zf | apply Za | apply Zd) | exact HB.out)⟩⟩
         case round =>
          clear H'
          (try clear c1); (try clear p1); (try clear q1); (try clear hx1); (try clear p2); (try clear c3); (try clear p3); (try clear q3); (try clear hx3); (try clear c5); (try clear c6); (try clear p6); (try clear c7); (try clear c8); (try clear c9); (try clear c10); (try clear p10); (try clear q10); (try clear hx10); (try clear hf10); (try clear c11); (try clear q11); (try clear p31); (try clear q31); (try clear hx31); (try clear p33); (try clear q33); (try clear hx33); (try clear p34); (try clear q34); (try clear hx34); (try clear c35); (try clear p35); (try clear q35); (try clear hx35); (try clear c50); (try clear c50b0); (try clear c52); (try clear c52b0); (try clear c53); (try clear c54); (try clear c55); (try clear c56); (try clear c63); (try clear c64); (try clear p64); (try clear c65); (try clear c65b0); (try clear c65b1); (try clear c66); (try clear c66b0); (try clear c66b1); (try clear c67); (try clear c67b0); (try clear c67b1); (try clear c68); (try clear c68b0); (try clear c68b1); (try clear c69); (try clear c70); (try clear c71); (try clear c71b0); (try clear c71b1); (try clear c72); (try clear c72b0); (try clear c72b1); (try clear c73); (try clear c73b0); (try clear c73b1); (try clear c74); (try clear c75); (try clear c76); (try clear c76b0); (try clear c77); (try clear c77b0); (try clear c78); (try clear c78b0); (try clear c79); (try clear c79b0); (try clear c81); (try clear c81b0); (try clear c82); (try clear c82b0); (try clear c84); (try clear c84b0); (try clear c85); (try clear c85b0); (try clear c86); (try clear c95); (try clear c95b0); (try clear c95b1); (try clear c97); (try clear c97b0); (try clear c98); (try clear c98b0); (try clear c101); (try clear c102); (try clear c102b0); (try clear c104); (try clear c104b0); (try clear c105); (try clear c105b0); (try clear c106); (try clear c106b0); (try clear c107); (try clear c107b0); (try clear c108); (try clear p108); (try clear q108); (try clear hx108); (try clear hf108); (try clear c111); (try clear q111); (try clear c114); (try clear c114b0); (try clear c114b1); (try clear c115); (try clear hcz30_0); (try clear hcz30_1); (try clear hcz30_2); (try clear hcz30_3); (try clear hfz30_0); (try clear hfz30_1); (try clear hfz30_2); (try clear hfz30_3); (try clear hx108_0); (try clear hx108_1); (try clear hx108_2); (try clear hx108_3); (try clear hx313_0); (try clear hx313_1); (try clear hx313_2); (try clear hx313_3); (try clear hx332_0); (try clear hx333_0); (try clear hx335_0); (try clear hx336_0); (try clear hx338_0); (try clear hx339_0); (try clear hx340_0); (try clear hx341_0); (try clear hx342_0); (try clear hx343_0); (try clear hx350_0); (try clear hx352_0); (try clear hx353_0); (try clear hx353_1); (try clear hx353_2); (try clear hx353_3); (try clear hx354_0); (try clear hx354_1); (try clear hx354_2); (try clear hx354_3); (try clear p108); (try clear p2); (try clear p3); (try clear p31); (try clear p313); (try clear p33); (try clear p332); (try clear p333); (try clear p335); (try clear p336); (try clear p338); (try clear p339); (try clear p34); (try clear p340); (try clear p341); (try clear p342); (try clear p343); (try clear p35); (try clear p350); (try clear p352); (try clear p353); (try clear p354); (try clear p6); (try clear p64); (try clear q108); (try clear q3); (try clear q31); (try clear q313); (try clear q33); (try clear q332); (try clear q333); (try clear q335); (try clear q336); (try clear q338); (try clear q339); (try clear q34); (try clear q340); (try clear q341); (try clear q342); (try clear q343); (try clear q35); (try clear q350); (try clear q352); (try clear q353); (try clear q354)
          obtain ⟨x19_3,x20_3,rfl,HA,HK3,HO_11,HO_19,HB⟩ := hrel
          cases gk with
          | zero => exact absurd HA.out (by simp [Zc.l4])
          | succ k3 =>
           have H := HA.out;clear HA;simp only [Zc.l4] at H
           by_cases c120 : x20_3 < (x11_2.length : Int)
           · rw [if_pos c120] at H
             have c120b0 : decide (x20_3 < (x11_2.length : Int)) = true := decide_eq_true c120;clear c120
             by_cases c121 : 0 ≤ x20_3
             · rw [if_pos c121] at H
               have c121b0 : decide (0 ≤ x20_3) = true := decide_eq_true c121;clear c121
               by_cases c122 : x19_3.length + (rd_L2 x11_2 x20_3).length < 4398046511104
               · rw [if_pos c122] at H
                 have LMc122 := Zb.mk c122;clear c122
                 obtain ⟨y362,hy362⟩ : ∃ y_ : List (S43),y_ = (x19_3 ++ (rd_L2 x11_2 x20_3)) := ⟨_,rfl⟩
                 replace H : (Zc.l4 k3 x11_2 y362 (wrap64 (x20_3 + 1))) = some r := by first | (rw [hy362];with_reducible exact H) | (have H2_ := (Option.bind_some _ _).symm.trans H;rw [hy362];with_reducible exact H2_) | (have H2_ := (Option.bind_some _ _).symm.trans H;with_reducible exact H2_) | with_reducible exact H | (rw [hy362];exact H) | exact H
                 have Ny362 := Zb.mk hy362;clear hy362;have H' := Zb.mk H;clear H;obtain ⟨Ao123,co123,eo123⟩ := Kd.J9 HO_11.out;subst eo123;have p361 : 0 ≤ (x20_3 : Int) := of_decide_eq_true (by first | (with_reducible assumption) | assumption);have q361 : x20_3 < (x11_2.length : Int) := of_decide_eq_true (by first | (with_reducible assumption) | assumption);obtain ⟨ad361,A361_0,c361_0,e361,hx361_0,hl361_0,hi361_0⟩ := at_L2 (Kd.Qd HO_11.out).2.2 x20_3 p361 q361
                 cases e361
                 obtain ⟨ce361,hce361,hMe361,hcc361⟩ := Kd.S_get HO_11.out [] x20_3 p361 (by first | exact q361 | exact of_decide_eq_true (by first | (with_reducible assumption) | assumption) | (have e_ := (Kd.Qd HO_11.out).1;omega));obtain ⟨ve361_0,rfl,ge361_0⟩ := hMe361;have hv361_0 := hcc361 0 _ rfl;rw [Nat.add_zero,show ((Kd.slice 43 k43)).sz = 1 from rfl,Nat.mul_one] at hv361_0;replace hv361_0 := Option.some.inj (hv361_0.symm.trans hx361_0);rw [hv361_0] at ge361_0;have HL361_0 := Zb.mk (show Kd.R k43 43 _ _ _ _ (rd_L2 x11_2 x20_3) from ge361_0);clear hv361_0 ge361_0;have HX361_0 := Zb.mk hx361_0;clear hcc361 hce361;have HR361_0 := Zb.mk hi361_0;have HC361_0 := Zb.mk hl361_0;clear hi361_0 hl361_0;replace p361 := eq_true p361;replace q361 := eq_true q361
                 go_wp2_with (first | ((with_reducible refine Qq (b := .append) (xs := #[.tmp 216,.tmp 220]) rfl ?_);at_builtin;refine Kd.Qk k43 (w0 := w) w.heap.size rfl (.tmp 216) (.tmp 220) 22 43 (.agg #[(.int .i64 0),(.int .i64 0),(.int .i64 0),(.int .i64 0)]) 32 rfl Try.underlying22 info43 rfl (by decide) (by omega) u19 x19_3 (rd_L2 x11_2 x20_3) _ _ _ (fun _ => True) (fun _ => False) rfl rfl ?aO ?aR (fun _ _ h => h) (fun _ h => h.elim) ?aF ?aB ?aS ?aL ?_;(case aR => repeat (first | exact (by repeat (first | (with_reducible exact HR361_0.out) | (with_reducible refine Kd.Z9 ?_ _) | (with_reducible refine Kd.ZA ?_ _) | (with_reducible refine Kd.ZO ?_) | exact HR361_0.out)) | (with_reducible refine Kd.Z9 ?_ _) | (with_reducible refine Kd.ZA ?_ _) | (with_reducible refine Kd.ZO ?_)));(case aB => exact (by repeat (first | (with_reducible first | exact HB.out | apply Zf | apply Za | apply Zd) | exact HB.out)));(case aF => exact (fun _ _ => trivial));(case aO => exact (by (with_reducible repeat (first | apply Kd.Zj | apply Kd.Zi | apply Kd.Zm));exact HO_19.out));(case aS => exact (Zp (by repeat (first | (with_reducible first | exact HB.out | apply Zf | apply Za | apply Zd) | exact HB.out))));(case aL => have := LMc122.out;omega);intro v363 w124 ho hb hg hat;rw [← Ny362.out] at ho;have n0_ := Zb.mk (Kd.Vf (ok := (fun _ => True)) (by (with_reducible repeat (first | apply Kd.Xe | apply Kd.Xf | apply Kd.Xj));exact Kd.Qp HO_11.out (fun _ hk => ⟨trivial,hk⟩)) hg hat);have n1_ := Zb.mk (Kd.Xt (ok := (fun k_ => some k_ ≠ (.slice (some ad361) x11_2.length co123 : Value).ownBlock)) (by (with_reducible repeat (first | apply Kd.Zj | apply Kd.Zi | apply Kd.Zm));exact Kd.ZE HL361_0.out (fun _ hk => ⟨hk.2,hk.1⟩)) hg hat);have n2_ := Zb.mk (hb);have n3_ := Zb.mk (ho);clear HO_11;clear HL361_0;clear HB;clear HO_19;have HO_11 := n0_;have HL361_0 := n1_;have HB := n2_;have HO364 := n3_;clear n0_ n1_ n2_ n3_;clear ho hb hg hat))
                 go_roundg k3
                 case measure => have := HK1.out;have := HK2.out;have := HK3.out;omega
                 case rel => exact ⟨(y362),(wrap64 (x20_3 + 1)),(by first | rfl | (simp;done) | (simp [*];done)),H',⟨by have := HK1.out;have := HK2.out;have := HK3.out;omega⟩,⟨by (with_reducible repeat (first | apply Kd.Xe | apply Kd.Xf | apply Kd.Xj));exact Kd.Qp HO_11.out (fun _ hk => hk.2)⟩,⟨by (with_reducible repeat (first | apply Kd.Zj | apply Kd.Zi | apply Kd.Zm));exact HO364.out⟩,⟨by repeat (first | (with_reducible first | exact HB.out | apply Zf | apply Za | apply Zd) | exact HB.out)⟩⟩
               · rw [if_neg c122] at H
                 exact absurd H (by simp)
             · rw [if_neg c121] at H
               exact absurd H (by simp)
           · rw [if_neg c120] at H
             have c120b0 : decide (x20_3 < (x11_2.length : Int)) = false := decide_eq_false c120;clear c120;obtain rfl := Option.some.inj H;obtain ⟨Ao125,co125,eo125⟩ := Kd.J9 HO_11.out;subst eo125
             go_wp2
             go_ret;exact ⟨_,by first | rfl | (simp [Zu,Zt] <;> rfl) | (simp [*,Zu,Zt] <;> rfl),by (with_reducible repeat (first | apply Kd.Zj | apply Kd.Zi | apply Kd.Zm));exact HO_19.out,by repeat (first | (with_reducible first | exact HB.out | apply Zf | apply Za | apply Zd) | exact HB.out)⟩
end Go.Proofs.Ythbajahklnpkcaa.PA
