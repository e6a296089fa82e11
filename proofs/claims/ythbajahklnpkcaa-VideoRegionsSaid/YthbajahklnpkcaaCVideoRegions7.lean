/- VideoRegions -/
import Derived.Test.YthbajahklnpkcaaCVideoRegions6
import Derived.Test.YthbajahklnpkcaaRows
import Derived.WalkKit
import Derived.ProofKit
import Derived.OpenShut
import Derived.ShutString
import Derived.ChangeOld
import Derived.Below
import Derived.SizedLaws
import Derived.Lib.SmallJoins
import Derived.ChangeSlices
namespace Go.Proofs.Ythbajahklnpkcaa.PA
open Go.RowKit Go.Proofs.YthbajahklnpkcaaW.PrintWords Go.Proofs.YthbajahklnpkcaaW.PrintLast Go.Proofs.YthbajahklnpkcaaW.PrintMore
attribute [local go_sem] ZK ZL ZR ZU ZD ZC ZM ZN
set_option linter.unusedVariables false
set_option linter.unusedSimpArgs false
def ZB.l0 : Nat → Int → Int → List (S43) → Int → Int → Option ((List (S43)) × Int)
 | 0,_,_,_,_,_ => none
 | k + 1,x1,x2,x8,x16,x17 => if x17 < x16 then (if x1 < (-30000) then (some (([] : List (S43)),7)) else (if x1 > 30000 then (some (([] : List (S43)),7)) else (if x2 < (-30000) then (some (([] : List (S43)),7)) else (if x2 > 30000 then (some (([] : List (S43)),7)) else (if 0 ≤ x17 then (if x17 < (x8.length : Int) then ((some (x8.set (x17 : Int).toNat (⟨wrap64 (((Ze x8 x17).f0) + x1),(Ze x8 x17).f1,(Ze x8 x17).f2,(Ze x8 x17).f3⟩ : S43) : List (S43))).bind fun y523 => ((Xk.f (wrap64 (((Ze x8 x17).f0) + x1)) (wrap64 (((Ze x8 x17).f1) + x2)) ((Ze x8 x17).f2) ((Ze x8 x17).f3)).bind fun t526 => (if t526 = true then (ZB.l0 k x1 x2 (y523.set (x17 : Int).toNat (⟨(Ze y523 x17).f0,wrap64 (((Ze x8 x17).f1) + x2),(Ze y523 x17).f2,(Ze y523 x17).f3⟩ : S43)) x16 (wrap64 (x17 + 1))) else (some (([] : List (S43)),7))))) else (none)) else (none)))))) else (some (x8,0))
def ZB.f (k : Nat) (l0 : List (S43)) (a1 : Int) (a2 : Int) : Option ((List (S43)) × Int) := (Z7.f l0).bind fun t517 => (if t517 = true then ((XF.f l0).bind fun t518 => (ZB.l0 k a1 a2 t518 (t518.length : Int) 0)) else (some (([] : List (S43)),1)))
def ZB.T9 : Bool × List (List Nat × List Nat) := (true,[([],[]),([],[]),([],[]),([],[]),([],[]),([],[]),([4,5],[4,5]),([6],[6]),([7],[7]),([],[]),([8,9],[8,9]),([],[]),([],[]),([11,12],[11,12]),([13],[13]),([14],[14]),([],[]),([15,16],[15,16]),([0,1,0,1,4,5,6,7,8,9,10,15],[0,1]),([18,0,1,4,5,6,7,8,9,10,15],[18]),([19,10,0,1,4,5,6,7,8,9,10,15],[10,19]),([2,3,0,1,2,3,4,5,6,7,8,9,10,11,12,13,14,15,16,17,18,19,20],[2,3]),([21,0,1,2,3,4,5,6,7,8,9,10,11,12,13,14,15,16,17,18,19,20],[21]),([22,17,20,0,1,2,3,4,5,6,7,8,9,10,11,12,13,14,15,16,17,18,19,20],[17,22])])
def ZB.B9 : List Nat := [0,0,0,0,0,0,48,112,240,0,1008,0,0,6144,14336,30720,0,129024,65523,327667,851955,2097151,4194303,8388607]
theorem ZB.tab9 : rtab .any (opsOf Try.f29 9) = ZB.T9 := by kernel_rfl
theorem ZB.bits9 : waitsOk ZB.T9.2 ZB.B9 = true := by kernel_rfl
set_option maxHeartbeats 8000000 in
set_option maxRecDepth 100000 in
theorem ZB.calls (k : Nat) (A0 : Option Addr) (c0 : Nat) (l0 : List (S43)) (a1 : Int) (a2 : Int) (r1 : List (S43)) (r2 : Int) (w : World) (hr0 : Kd.C k43 w A0 l0.length l0) (hc0 : l0.length ≤ c0) (h : ZB.f k l0 a1 a2 = some (r1,r2)) :
 Calls Try.prog 29 #[.slice A0 l0.length c0,.int .i64 a1,.int .i64 a2] w fun e w' => ∃ v0_ : Value,e = .returned (.tuple #[v0_,.int .i64 r2]) ∧ Kd.R k43 43 w' w.heap.size (fun _ => True) v0_ r1 ∧ Below w.heap.size w w' := by
 have hu43 := Try.underlying43;have HR0 := Zb.mk hr0;have HC0 := Zb.mk hc0;clear hr0 hc0;have HB := Zb.mk (Below.refl w.heap.size w);have H : ((Z7.f l0).bind fun t517 => (if t517 = true then ((XF.f l0).bind fun t518 => (ZB.l0 k a1 a2 t518 (t518.length : Int) 0)) else (some (([] : List (S43)),1)))) = some (r1,r2) := h;clear h;replace H := Option.bind_eq_some_iff.mp H;obtain ⟨t517,A40,H⟩ := H;replace H : (if t517 = true then ((XF.f l0).bind fun t518 => (ZB.l0 k a1 a2 t518 (t518.length : Int) 0)) else (some (([] : List (S43)),1))) = some (r1,r2) := H;have A4 := Zb.mk A40;clear A40
 by_cases c5 : t517 = true
 · subst c5
   have H1 : ((XF.f l0).bind fun t518 => (ZB.l0 k a1 a2 t518 (t518.length : Int) 0)) = some (r1,r2) := by rw [if_pos rfl] at H;exact H
   clear H;have H := H1;clear H1;replace H := Option.bind_eq_some_iff.mp H;obtain ⟨t518,A60,H⟩ := H;replace H : (ZB.l0 k a1 a2 t518 (t518.length : Int) 0) = some (r1,r2) := H;have A6 := Zb.mk A60;clear A60;have H' := Zb.mk H;clear H
   go_enter Try.func29,Try.ntmps29
   go_wp2_with (first | ((with_reducible refine Zw (f := 22) rfl ?_);refine ZP (some 11) rfl rfl Try.func22 (by kernel_rfl) rfl #[.slice A0 l0.length c0] rfl (by (try simp only [List.map_toArray,List.map_cons,List.map_nil]);first | done | rfl | (simp only [List.length_drop,List.length_take];rfl)) ?_;(with_reducible refine (Z7.calls _ _ l0 true _ ?side1 ?side2 A4.out).mono ?_);(case side1 => repeat (first | exact HR0.out | (with_reducible refine Kd.Z9 ?_ _) | (with_reducible refine Kd.ZA ?_ _) | (with_reducible refine Kd.ZO ?_)));(case side2 => exact HC0.out);rintro e w7 ⟨rfl,hb⟩;refine ⟨_,rfl,?_⟩;have n0_ := Zb.mk (Zr (by repeat (first | (with_reducible first | exact HB.out | apply Zf | apply Za | apply Zd) | exact HB.out)) hb);clear HB;have HB := n0_;clear n0_;(try clear hb);(try clear hb2);(try clear hk);(try clear hi)) | ((with_reducible refine Zw (f := 82) rfl ?_);refine ZP (some 14) rfl rfl Try.func82 (by kernel_rfl) rfl #[.slice A0 l0.length c0] rfl (by (try simp only [List.map_toArray,List.map_cons,List.map_nil]);first | done | rfl | (simp only [List.length_drop,List.length_take];rfl)) ?_;(with_reducible refine (XF.calls _ _ l0 t518 _ ?side1 ?side2 A6.out).mono ?_);(case side1 => repeat (first | exact (Kd.Z5 HR0.out HB.out) | (with_reducible refine Kd.Z9 ?_ _) | (with_reducible refine Kd.ZA ?_ _) | (with_reducible refine Kd.ZO ?_)));(case side2 => exact HC0.out);rintro e w8 ⟨v519,rfl,ho0,hb⟩;refine ⟨_,rfl,?_⟩;have n0_ := Zb.mk (Kd.Xd ho0 (Zp (by repeat (first | (with_reducible first | exact HB.out | apply Zf | apply Za | apply Zd) | exact HB.out))));have n1_ := Zb.mk (Zr (by repeat (first | (with_reducible first | exact HB.out | apply Zf | apply Za | apply Zd) | exact HB.out)) hb);clear HB;have HO520 := n0_;have HB := n1_;clear n0_ n1_;(try clear hb);(try clear hb2);(try clear hk);(try clear hi);(try clear ho0);obtain ⟨Ao9,co9,eo9⟩ := Kd.ZS HO520.out;subst eo9))
   go_loopg [17] k (fun kq v17 w' => ∃ (x8_1 : List (S43)) (x17_1 : Int),v17 = .int .i64 x17_1 ∧ Zb (ZB.l0 kq a1 a2 x8_1 (t518.length : Int) x17_1 = some (r1,r2)) ∧ Zb (kq ≤ k) ∧ Zb (Kd.R k43 43 w' w.heap.size (fun _ => True) (.slice Ao9 t518.length co9) x8_1) ∧ Zb (Below w.heap.size w w'))
   case atStart => exact ⟨(t518),(0),(by first | rfl | (simp;done) | (simp [*];done)),H',⟨Nat.le_refl _⟩,⟨by (with_reducible repeat (first | apply Kd.Zj | apply Kd.Zi | apply Kd.Zm));exact HO520.out⟩,⟨by repeat (first | (with_reducible first | exact HB.out | apply Zf | apply Za | apply Zd) | exact HB.out)⟩⟩
   case round =>
    clear H'
    (try clear c2); (try clear p2); (try clear c5); (try clear c8)
    obtain ⟨x8_1,x17_1,rfl,HA,HK1,HO_8,HB⟩ := hrel;have hl8_1 := (Kd.Z3 HO_8.out).1;rw [hl8_1] at HO_8
    (try simp only [hl8_1])
    cases gk with
    | zero => exact absurd HA.out (by simp [ZB.l0])
    | succ k1 =>
     have H := HA.out;clear HA;simp only [ZB.l0] at H
     by_cases c10 : x17_1 < (t518.length : Int)
     · rw [if_pos c10] at H
       have c10b0 : decide (x17_1 < (t518.length : Int)) = true := decide_eq_true c10
       have c10b9 : decide (x17_1 < (x8_1.length : Int)) = true := by have e_ := (Kd.Z3 HO_8.out).1;have e2_ : (t518.length : Int) = (x8_1.length : Int) := (by omega);rw [e2_] at c10b0;exact c10b0
       clear c10
       by_cases c11 : a1 < (-30000)
       · rw [if_pos c11] at H
         have c11b0 : decide (a1 < (-30000)) = true := decide_eq_true c11;clear c11;simp only [Option.some.injEq,Prod.mk.injEq] at H;obtain ⟨rfl,rfl⟩ := H
         go_wp2
         go_ret2
         exact ⟨_,by first | rfl | (simp [Zu,Zt] <;> rfl) | (simp [*,Zu,Zt] <;> rfl),by first | exact Kd.R_nil _ _ _ _ _ | exact Kd.N_nil _ _ _ _ _ | exact Kd.V_nil _ _ _ _ _ | exact Kd.Q_nil _ _ _ _ _ | exact Kd.S_nil _ _ _ _ _,by repeat (first | (with_reducible first | exact HB.out | apply Zf | apply Za | apply Zd) | exact HB.out)⟩
       · rw [if_neg c11] at H
         have c11b0 : decide (a1 < (-30000)) = false := decide_eq_false c11;clear c11
         by_cases c12 : a1 > 30000
         · rw [if_pos c12] at H
           have c12b0 : decide (30000 < a1) = true := decide_eq_true c12;clear c12;simp only [Option.some.injEq,Prod.mk.injEq] at H;obtain ⟨rfl,rfl⟩ := H
           go_wp2
           go_ret2
           exact ⟨_,by first | rfl | (simp [Zu,Zt] <;> rfl) | (simp [*,Zu,Zt] <;> rfl),by first | exact Kd.R_nil _ _ _ _ _ | exact Kd.N_nil _ _ _ _ _ | exact Kd.V_nil _ _ _ _ _ | exact Kd.Q_nil _ _ _ _ _ | exact Kd.S_nil _ _ _ _ _,by repeat (first | (with_reducible first | exact HB.out | apply Zf | apply Za | apply Zd) | exact HB.out)⟩
         · rw [if_neg c12] at H
           have c12b0 : decide (30000 < a1) = false := decide_eq_false c12;clear c12
           by_cases c13 : a2 < (-30000)
           · rw [if_pos c13] at H
             have c13b0 : decide (a2 < (-30000)) = true := decide_eq_true c13;clear c13;simp only [Option.some.injEq,Prod.mk.injEq] at H;obtain ⟨rfl,rfl⟩ := H
             go_wp2
             go_ret2
             exact ⟨_,by first | rfl | (simp [Zu,Zt] <;> rfl) | (simp [*,Zu,Zt] <;> rfl),by first | exact Kd.R_nil _ _ _ _ _ | exact Kd.N_nil _ _ _ _ _ | exact Kd.V_nil _ _ _ _ _ | exact Kd.Q_nil _ _ _ _ _ | exact Kd.S_nil _ _ _ _ _,by repeat (first | (with_reducible first | exact HB.out | apply Zf | apply Za | apply Zd) | exact HB.out)⟩
           · rw [if_neg c13] at H
             have c13b0 : decide (a2 < (-30000)) = false := decide_eq_false c13;clear c13
             by_cases c14 : a2 > 30000
             · rw [if_pos c14] at H
               have c14b0 : decide (30000 < a2) = true := decide_eq_true c14;clear c14;simp only [Option.some.injEq,Prod.mk.injEq] at H;obtain ⟨rfl,rfl⟩ := H
               go_wp2
               go_ret2
               exact ⟨_,by first | rfl | (simp [Zu,Zt] <;> rfl) | (simp [*,Zu,Zt] <;> rfl),by first | exact Kd.R_nil _ _ _ _ _ | exact Kd.N_nil _ _ _ _ _ | exact Kd.V_nil _ _ _ _ _ | exact Kd.Q_nil _ _ _ _ _ | exact Kd.S_nil _ _ _ _ _,by repeat (first | (with_reducible first | exact HB.out | apply Zf | apply Za | apply Zd) | exact HB.out)⟩
             · rw [if_neg c14] at H
               have c14b0 : decide (30000 < a2) = false := decide_eq_false c14;clear c14
               by_cases c15 : 0 ≤ x17_1
               · rw [if_pos c15] at H
                 have c15b0 : decide (0 ≤ x17_1) = true := decide_eq_true c15;clear c15
                 by_cases c16 : x17_1 < (x8_1.length : Int)
                 · rw [if_pos c16] at H
                   have c16b0 : decide (x17_1 < (x8_1.length : Int)) = true := decide_eq_true c16;clear c16
                   obtain ⟨y523,hy523⟩ : ∃ y_ : List (S43),y_ = (x8_1.set (x17_1 : Int).toNat (⟨wrap64 (((Ze x8_1 x17_1).f0) + a1),(Ze x8_1 x17_1).f1,(Ze x8_1 x17_1).f2,(Ze x8_1 x17_1).f3⟩ : S43)) := ⟨_,rfl⟩
                   replace H : ((Xk.f (wrap64 (((Ze x8_1 x17_1).f0) + a1)) (wrap64 (((Ze x8_1 x17_1).f1) + a2)) ((Ze x8_1 x17_1).f2) ((Ze x8_1 x17_1).f3)).bind fun t526 => (if t526 = true then (ZB.l0 k1 a1 a2 (y523.set (x17_1 : Int).toNat (⟨(Ze y523 x17_1).f0,wrap64 (((Ze x8_1 x17_1).f1) + a2),(Ze y523 x17_1).f2,(Ze y523 x17_1).f3⟩ : S43)) (t518.length : Int) (wrap64 (x17_1 + 1))) else (some (([] : List (S43)),7)))) = some (r1,r2) := by first | (rw [hy523];with_reducible exact H) | (have H2_ := (Option.bind_some _ _).symm.trans H;rw [hy523];with_reducible exact H2_) | (have H2_ := (Option.bind_some _ _).symm.trans H;with_reducible exact H2_) | with_reducible exact H | (rw [hy523];exact H) | exact H
                   have Ny523 := Zb.mk hy523;clear hy523
                   obtain ⟨y524,hy524⟩ : ∃ y_ : List (S43),y_ = (y523.set (x17_1 : Int).toNat (⟨(Ze y523 x17_1).f0,wrap64 (((Ze x8_1 x17_1).f1) + a2),(Ze y523 x17_1).f2,(Ze y523 x17_1).f3⟩ : S43)) := ⟨_,rfl⟩
                   replace H : ((Xk.f (wrap64 (((Ze x8_1 x17_1).f0) + a1)) (wrap64 (((Ze x8_1 x17_1).f1) + a2)) ((Ze x8_1 x17_1).f2) ((Ze x8_1 x17_1).f3)).bind fun t526 => (if t526 = true then (ZB.l0 k1 a1 a2 y524 (t518.length : Int) (wrap64 (x17_1 + 1))) else (some (([] : List (S43)),7)))) = some (r1,r2) := by first | (rw [hy524];with_reducible exact H) | (have H2_ := (Option.bind_some _ _).symm.trans H;rw [hy524];with_reducible exact H2_) | (have H2_ := (Option.bind_some _ _).symm.trans H;with_reducible exact H2_) | with_reducible exact H | (rw [hy524];exact H) | exact H
                   have Ny524 := Zb.mk hy524;clear hy524;replace H := Option.bind_eq_some_iff.mp H;obtain ⟨t526,A200,H⟩ := H;replace H : (if t526 = true then (ZB.l0 k1 a1 a2 y524 (t518.length : Int) (wrap64 (x17_1 + 1))) else (some (([] : List (S43)),7))) = some (r1,r2) := H;have A20 := Zb.mk A200;clear A200
                   by_cases c21 : t526 = true
                   · subst c21
                     have H1 : (ZB.l0 k1 a1 a2 y524 (t518.length : Int) (wrap64 (x17_1 + 1))) = some (r1,r2) := by rw [if_pos rfl] at H;exact H
                     clear H;have H := H1;clear H1;have H' := Zb.mk H;clear H
                     try go_wp2
                     have n0_ := Zb.mk (Kd.Zm HO_8.out);have n1_ := Zb.mk (Zd HB.out);clear HO_8;clear HB;have HO_8 := n0_;have HB := n1_;clear n0_ n1_;have p521 : 0 ≤ (x17_1 : Int) := of_decide_eq_true (by first | (with_reducible assumption) | assumption);have q521 : x17_1 < (x8_1.length : Int) := of_decide_eq_true (by first | (with_reducible assumption) | assumption);obtain ⟨ad521,e521,hx521_0,hx521_1,hx521_2,hx521_3⟩ := Z4 (Kd.Z3 HO_8.out).2.2 x17_1 p521 q521
                     cases e521
                     replace p521 := eq_true p521;replace q521 := eq_true q521;have p522 : 0 ≤ (x17_1 : Int) := of_decide_eq_true (by first | (with_reducible assumption) | assumption);have q522 : x17_1 < (x8_1.length : Int) := of_decide_eq_true (by first | (with_reducible assumption) | assumption);obtain ⟨ad522,e522,hx522_0,hx522_1,hx522_2,hx522_3⟩ := Z4 (Kd.Z3 HO_8.out).2.2 x17_1 p522 q522
                     obtain rfl : ad521 = ad522 := (by injection e522)
                     replace p522 := eq_true p522;replace q522 := eq_true q522;have p17 : 0 ≤ (x17_1 : Int) := of_decide_eq_true (by first | (with_reducible assumption) | assumption);have q17 : (x17_1 : Int) < ((x8_1.length : Int) : Int) := of_decide_eq_true (by first | (with_reducible assumption) | assumption);obtain ⟨go17,co17,eo17,gb17,gl17,cl17,HG17⟩ := Kd.JA HO_8.out (by omega)
                     (first | cases eo17 | (injection eo17 with ea_ en_ ec_;(first | subst ea_ | (injection ea_ with ea_;subst ea_));subst ec_;clear en_))
                     have GB17 := Zb.mk gb17;have GG17 := Zb.mk HG17;clear gb17 gl17 HG17
                     (first | simp only [ZT] at hx521_0 | skip)
                     (first | simp only [ZT] at hx521_1 | skip)
                     (first | simp only [ZT] at hx521_2 | skip)
                     (first | simp only [ZT] at hx521_3 | skip)
                     (first | simp only [ZT] at hx522_0 | skip)
                     (first | simp only [ZT] at hx522_1 | skip)
                     (first | simp only [ZT] at hx522_2 | skip)
                     (first | simp only [ZT] at hx522_3 | skip)
                     obtain ⟨ce17,hcl17,hM17,hcc17,hfr17⟩ := Kd.Qr HO_8.out z43 (x17_1 : Int) p17 q17;obtain rfl := XQ hM17;have hx17_0 : World.cell? _ ⟨go17,(x17_1 : Int).toNat * 4,none⟩ = some (.int .i64 ((Ze x8_1 x17_1).f0)) := hcc17 0 _ rfl;have hx17_1 : World.cell? _ ⟨go17,(x17_1 : Int).toNat * 4 + 1,none⟩ = some (.int .i64 ((Ze x8_1 x17_1).f1)) := hcc17 1 _ rfl;have hx17_2 : World.cell? _ ⟨go17,(x17_1 : Int).toNat * 4 + 2,none⟩ = some (.int .i64 ((Ze x8_1 x17_1).f2)) := hcc17 2 _ rfl;have hx17_3 : World.cell? _ ⟨go17,(x17_1 : Int).toNat * 4 + 3,none⟩ = some (.int .i64 ((Ze x8_1 x17_1).f3)) := hcc17 3 _ rfl;have hf17_0 : World.frozen? _ ⟨go17,(x17_1 : Int).toNat * 4,none⟩ = false := hfr17 0;have hf17_1 : World.frozen? _ ⟨go17,(x17_1 : Int).toNat * 4 + 1,none⟩ = false := hfr17 1;have hf17_2 : World.frozen? _ ⟨go17,(x17_1 : Int).toNat * 4 + 2,none⟩ = false := hfr17 2;have hf17_3 : World.frozen? _ ⟨go17,(x17_1 : Int).toNat * 4 + 3,none⟩ = false := hfr17 3;clear hcl17 hcc17 hfr17 hM17;replace p17 := eq_true p17;replace q17 := eq_true q17;obtain ⟨ce23,hcl23,hM23,hcc23,hfr23⟩ := Kd.Qr HO_8.out z43 (x17_1 : Int) (of_decide_eq_true (by first | (with_reducible assumption) | assumption)) (by have h_ : (x17_1 : Int) < ((x8_1.length : Int) : Int) := of_decide_eq_true (by first | (with_reducible assumption) | assumption);first | exact h_ | (have e_ := (Kd.Z3 HO_8.out).1;omega) | simpa using h_);obtain rfl := XQ hM23;have HP23 := (Kd.R_seg HO_8.out (x17_1 : Int) (of_decide_eq_true (by first | (with_reducible assumption) | assumption)) (by have h_ : (x17_1 : Int) < ((x8_1.length : Int) : Int) := of_decide_eq_true (by first | (with_reducible assumption) | assumption);first | exact h_ | (have e_ := (Kd.Z3 HO_8.out).1;omega) | simpa using h_) (seg := [.int .i64 (wrap64 (((Ze x8_1 x17_1).f0) + a1))]) (j := 0) hcl23 hcc23 (show 1 ≤ 4 from by decide) (x' := (⟨wrap64 (((Ze x8_1 x17_1).f0) + a1),(Ze x8_1 x17_1).f1,(Ze x8_1 x17_1).f2,(Ze x8_1 x17_1).f3⟩ : S43)) (Xs _ _ _ (⟨wrap64 (((Ze x8_1 x17_1).f0) + a1),(Ze x8_1 x17_1).f1,(Ze x8_1 x17_1).f2,(Ze x8_1 x17_1).f3⟩ : S43) ) (fun _ hk => hk)).1;rw [← Ny523.out] at HP23;have HQ23 := Zb.mk HP23;clear hcl23 hcc23 hfr23 hM23 HP23;have p18 : 0 ≤ (x17_1 : Int) := of_decide_eq_true (by first | (with_reducible assumption) | assumption);have q18 : (x17_1 : Int) < ((x8_1.length : Int) : Int) := of_decide_eq_true (by first | (with_reducible assumption) | assumption);replace p18 := eq_true p18;replace q18 := eq_true q18;obtain ⟨ce24,hcl24,hM24,hcc24,hfr24⟩ := Kd.Qr HQ23.out z43 (x17_1 : Int) (of_decide_eq_true (by first | (with_reducible assumption) | assumption)) (by have h_ : (x17_1 : Int) < ((x8_1.length : Int) : Int) := of_decide_eq_true (by first | (with_reducible assumption) | assumption);first | exact h_ | (have e_ := (Kd.Z3 HO_8.out).1;omega) | simpa using h_);obtain rfl := XQ hM24;have HP24 := (Kd.R_seg HQ23.out (x17_1 : Int) (of_decide_eq_true (by first | (with_reducible assumption) | assumption)) (by have h_ : (x17_1 : Int) < ((x8_1.length : Int) : Int) := of_decide_eq_true (by first | (with_reducible assumption) | assumption);first | exact h_ | (have e_ := (Kd.Z3 HO_8.out).1;omega) | simpa using h_) (seg := [.int .i64 (wrap64 (((Ze x8_1 x17_1).f1) + a2))]) (j := 1) hcl24 hcc24 (show 2 ≤ 4 from by decide) (x' := (⟨(Ze y523 x17_1).f0,wrap64 (((Ze x8_1 x17_1).f1) + a2),(Ze y523 x17_1).f2,(Ze y523 x17_1).f3⟩ : S43)) (Xs _ _ _ (⟨(Ze y523 x17_1).f0,wrap64 (((Ze x8_1 x17_1).f1) + a2),(Ze y523 x17_1).f2,(Ze y523 x17_1).f3⟩ : S43) ) (fun _ hk => hk)).1;rw [← Ny524.out] at HP24;have HQ24 := Zb.mk HP24;clear hcl24 hcc24 hfr24 hM24 HP24;refine Qn (n := 24) (S := fun w' => w'.cell? ⟨go17,((x17_1).toNat * 4),none⟩ = some (.int .i64 ((Ze x8_1 x17_1).f0)) ∧ w'.cell? ⟨go17,((x17_1).toNat * 4) + 1,none⟩ = some (.int .i64 ((Ze x8_1 x17_1).f1)) ∧ w'.cell? ⟨go17,((x17_1).toNat * 4) + 2,none⟩ = some (.int .i64 ((Ze x8_1 x17_1).f2)) ∧ w'.cell? ⟨go17,((x17_1).toNat * 4) + 3,none⟩ = some (.int .i64 ((Ze x8_1 x17_1).f3)) ∧ w'.cell? ⟨go17,((x17_1).toNat * 4),none⟩ = some (.int .i64 ((Ze x8_1 x17_1).f0)) ∧ w'.cell? ⟨go17,((x17_1).toNat * 4) + 1,none⟩ = some (.int .i64 ((Ze x8_1 x17_1).f1)) ∧ w'.cell? ⟨go17,((x17_1).toNat * 4) + 2,none⟩ = some (.int .i64 ((Ze x8_1 x17_1).f2)) ∧ w'.cell? ⟨go17,((x17_1).toNat * 4) + 3,none⟩ = some (.int .i64 ((Ze x8_1 x17_1).f3))) (ds := [20,23]) #[Z,Z,Z,Z,Z,Z,Z,Z,Z,Z,Z,Z,Z,Z,Z,Z,Z,Z,Z,Z,Z,Z,Z,Z] (by kernel_rfl) rfl rfl ⟨hx521_0,hx521_1,hx521_2,hx521_3,hx522_0,hx522_1,hx522_2,hx522_3⟩ (fun hHeld => ?_);refine XC ZB.tab9 ZB.bits9 (fun HT_ HW_ => ?_);generalize wr.drew = w22 at HO_8 HB GG17 HQ23 HQ24 hf17_0 hf17_1 hf17_2 hf17_3 hx17_0 hx17_1 hx17_2 hx17_3 hx521_0 hx521_1 hx521_2 hx521_3 hx522_0 hx522_1 hx522_2 hx522_3 hHeld ⊢;refine pure_ (i := 0) (N := some 34) (v := ?_) (a' := ?_) #[U,Z,Z,Z,Z,Z,Z,Z,Z,Z,Z,Z,Z,Z,Z,Z,Z,Z,Z,Z,Z,Z,Z,Z] rfl rfl (Zs HT_.out (by kernel_rfl)) (fun _ _ _ h => h) (Or.inl ⟨by rfl,?_⟩) ?_ ?_;rotate_left
                     · intro w'
                       go_simp;with_reducible rfl
                     rotate_left
                     · simp only [Act.put,V9,VA,VB,i64_w,i32_w]
                       rfl
                     refine pure_ (i := 1) (N := some 35) (v := ?_) (a' := ?_) #[U,U,Z,Z,Z,Z,Z,Z,Z,Z,Z,Z,Z,Z,Z,Z,Z,Z,Z,Z,Z,Z,Z,Z] rfl rfl (Zs HT_.out (by kernel_rfl)) (fun _ _ _ h => h) (Or.inl ⟨by rfl,?_⟩) ?_ ?_;rotate_left
                     · intro w'
                       go_simp;with_reducible rfl
                     rotate_left
                     · simp only [Act.put,V9,VA,VB,i64_w,i32_w]
                       rfl
                     refine pure_ (i := 2) (N := some 36) (v := ?_) (a' := ?_) #[U,U,U,Z,Z,Z,Z,Z,Z,Z,Z,Z,Z,Z,Z,Z,Z,Z,Z,Z,Z,Z,Z,Z] rfl rfl (Zs HT_.out (by kernel_rfl)) (fun _ _ _ h => h) (Or.inl ⟨by rfl,?_⟩) ?_ ?_;rotate_left
                     · intro w'
                       go_simp;with_reducible rfl
                     rotate_left
                     · simp only [Act.put,V9,VA,VB,i64_w,i32_w]
                       rfl
                     refine pure_ (i := 3) (N := some 37) (v := ?_) (a' := ?_) #[U,U,U,U,Z,Z,Z,Z,Z,Z,Z,Z,Z,Z,Z,Z,Z,Z,Z,Z,Z,Z,Z,Z] rfl rfl (Zs HT_.out (by kernel_rfl)) (fun _ _ _ h => h) (Or.inl ⟨by rfl,?_⟩) ?_ ?_;rotate_left
                     · intro w'
                       go_simp;with_reducible rfl
                     rotate_left
                     · simp only [Act.put,V9,VA,VB,i64_w,i32_w]
                       rfl
                     refine pure_ (i := 4) (N := some 38) (v := ?_) (a' := ?_) #[U,U,U,U,U,Z,Z,Z,Z,Z,Z,Z,Z,Z,Z,Z,Z,Z,Z,Z,Z,Z,Z,Z] rfl rfl (Zs HT_.out (by kernel_rfl)) (fun _ _ _ h => h) (Or.inl ⟨by rfl,?_⟩) ?_ ?_;rotate_left
                     · intro w'
                       go_simp;with_reducible rfl
                     rotate_left
                     · simp only [Act.put,V9,VA,VB,i64_w,i32_w]
                       rfl
                     refine pure_ (i := 5) (N := some 39) (v := ?_) (a' := ?_) #[U,U,U,U,U,U,Z,Z,Z,Z,Z,Z,Z,Z,Z,Z,Z,Z,Z,Z,Z,Z,Z,Z] rfl rfl (Zs HT_.out (by kernel_rfl)) (fun _ _ _ h => h) (Or.inl ⟨by rfl,?_⟩) ?_ ?_;rotate_left
                     · intro w'
                       go_simp;with_reducible rfl
                     rotate_left
                     · simp only [Act.put,V9,VA,VB,i64_w,i32_w]
                       rfl
                     refine pure_ (i := 6) (N := some 40) (v := ?_) (a' := ?_) #[U,U,U,U,U,U,U,Z,Z,Z,Z,Z,Z,Z,Z,Z,Z,Z,Z,Z,Z,Z,Z,Z] rfl rfl (Zs HT_.out (by kernel_rfl)) (fun _ _ _ h => h) (Or.inl ⟨by rfl,?_⟩) ?_ ?_;rotate_left
                     · intro w'
                       go_simp;with_reducible rfl
                     rotate_left
                     · simp only [Act.put,V9,VA,VB,i64_w,i32_w]
                       rfl
                     refine pure_ (i := 7) (N := some 41) (v := ?_) (a' := ?_) #[U,U,U,U,U,U,U,U,Z,Z,Z,Z,Z,Z,Z,Z,Z,Z,Z,Z,Z,Z,Z,Z] rfl rfl (Zs HT_.out (by kernel_rfl)) (fun _ _ _ h => h) (Or.inl ⟨by rfl,?_⟩) ?_ ?_;rotate_left
                     · intro w'
                       go_simp;with_reducible rfl
                     rotate_left
                     · simp only [Act.put,V9,VA,VB,i64_w,i32_w]
                       rfl
                     refine pure_ (i := 9) (N := some 43) (v := ?_) (a' := ?_) #[U,U,U,U,U,U,U,U,Z,U,Z,Z,Z,Z,Z,Z,Z,Z,Z,Z,Z,Z,Z,Z] rfl rfl (Zs HT_.out (by kernel_rfl)) (fun _ _ _ h => h) (Or.inl ⟨by rfl,?_⟩) ?_ ?_;rotate_left
                     · intro w'
                       go_simp;with_reducible rfl
                     rotate_left
                     · simp only [Act.put,V9,VA,VB,i64_w,i32_w]
                       rfl
                     refine pure_ (i := 11) (N := some 45) (v := ?_) (a' := ?_) #[U,U,U,U,U,U,U,U,Z,U,Z,U,Z,Z,Z,Z,Z,Z,Z,Z,Z,Z,Z,Z] rfl rfl (Zs HT_.out (by kernel_rfl)) (fun _ _ _ h => h) (Or.inl ⟨by rfl,?_⟩) ?_ ?_;rotate_left
                     · intro w'
                       go_simp;with_reducible rfl
                     rotate_left
                     · simp only [Act.put,V9,VA,VB,i64_w,i32_w]
                       rfl
                     refine pure_ (i := 12) (N := some 46) (v := ?_) (a' := ?_) #[U,U,U,U,U,U,U,U,Z,U,Z,U,U,Z,Z,Z,Z,Z,Z,Z,Z,Z,Z,Z] rfl rfl (Zs HT_.out (by kernel_rfl)) (fun _ _ _ h => h) (Or.inl ⟨by rfl,?_⟩) ?_ ?_;rotate_left
                     · intro w'
                       go_simp;with_reducible rfl
                     rotate_left
                     · simp only [Act.put,V9,VA,VB,i64_w,i32_w]
                       rfl
                     refine pure_ (i := 13) (N := some 47) (v := ?_) (a' := ?_) #[U,U,U,U,U,U,U,U,Z,U,Z,U,U,U,Z,Z,Z,Z,Z,Z,Z,Z,Z,Z] rfl rfl (Zs HT_.out (by kernel_rfl)) (fun _ _ _ h => h) (Or.inl ⟨by rfl,?_⟩) ?_ ?_;rotate_left
                     · intro w'
                       go_simp;with_reducible rfl
                     rotate_left
                     · simp only [Act.put,V9,VA,VB,i64_w,i32_w]
                       rfl
                     refine pure_ (i := 14) (N := some 48) (v := ?_) (a' := ?_) #[U,U,U,U,U,U,U,U,Z,U,Z,U,U,U,U,Z,Z,Z,Z,Z,Z,Z,Z,Z] rfl rfl (Zs HT_.out (by kernel_rfl)) (fun _ _ _ h => h) (Or.inl ⟨by rfl,?_⟩) ?_ ?_;rotate_left
                     · intro w'
                       go_simp;with_reducible rfl
                     rotate_left
                     · simp only [Act.put,V9,VA,VB,i64_w,i32_w]
                       rfl
                     refine pure_ (i := 16) (N := some 50) (v := ?_) (a' := ?_) #[U,U,U,U,U,U,U,U,Z,U,Z,U,U,U,U,Z,U,Z,Z,Z,Z,Z,Z,Z] rfl rfl (Zs HT_.out (by kernel_rfl)) (fun _ _ _ h => h) (Or.inl ⟨by rfl,?_⟩) ?_ ?_;rotate_left
                     · intro w'
                       go_simp;with_reducible rfl
                     rotate_left
                     · simp only [Act.put,V9,VA,VB,i64_w,i32_w]
                       rfl
                     refine take_ (i := 8) (N := some 42) (v := ?_) (a' := ?_) #[U,U,U,U,U,U,U,U,U,U,Z,U,U,U,U,Z,U,Z,Z,Z,Z,Z,Z,Z] rfl rfl (ZQ HT_.out HW_.out (by kernel_rfl)) (fun _ _ _ h => h) (Or.inl ⟨by rfl,?_⟩) hHeld ?_ ?_;rotate_left
                     · rintro w' ⟨s0,s1,s2,s3,s4,s5,s6,s7⟩
                       go_simp;with_reducible rfl
                     rotate_left
                     · simp only [Act.put,V9,VA,VB,i64_w,i32_w]
                       rfl
                     refine pure_ (i := 10) (N := some 44) (v := ?_) (a' := ?_) #[U,U,U,U,U,U,U,U,U,U,U,U,U,U,U,Z,U,Z,Z,Z,Z,Z,Z,Z] rfl rfl (Zs HT_.out (by kernel_rfl)) (fun _ _ _ h => h) (Or.inl ⟨by rfl,?_⟩) ?_ ?_;rotate_left
                     · intro w'
                       go_simp;with_reducible rfl
                     rotate_left
                     · simp only [Act.put,V9,VA,VB,i64_w,i32_w]
                       rfl
                     refine take_ (i := 15) (N := some 49) (v := ?_) (a' := ?_) #[U,U,U,U,U,U,U,U,U,U,U,U,U,U,U,U,U,Z,Z,Z,Z,Z,Z,Z] rfl rfl (ZQ HT_.out HW_.out (by kernel_rfl)) (fun _ _ _ h => h) (Or.inl ⟨by rfl,?_⟩) hHeld ?_ ?_;rotate_left
                     · rintro w' ⟨s0,s1,s2,s3,s4,s5,s6,s7⟩
                       go_simp;with_reducible rfl
                     rotate_left
                     · simp only [Act.put,V9,VA,VB,i64_w,i32_w]
                       rfl
                     refine pure_ (i := 17) (N := some 51) (v := ?_) (a' := ?_) #[U,U,U,U,U,U,U,U,U,U,U,U,U,U,U,U,U,U,Z,Z,Z,Z,Z,Z] rfl rfl (Zs HT_.out (by kernel_rfl)) (fun _ _ _ h => h) (Or.inl ⟨by rfl,?_⟩) ?_ ?_;rotate_left
                     · intro w'
                       go_simp;with_reducible rfl
                     rotate_left
                     · simp only [Act.put,V9,VA,VB,i64_w,i32_w]
                       rfl
                     refine pure_ (i := 18) (N := some 52) (v := ?_) (a' := ?_) #[U,U,U,U,U,U,U,U,U,U,U,U,U,U,U,U,U,U,U,Z,Z,Z,Z,Z] rfl rfl (Zs HT_.out (by kernel_rfl)) (fun _ _ _ h => h) (Or.inl ⟨by rfl,?_⟩) ?_ ?_;rotate_left
                     · intro w'
                       go_simp;with_reducible rfl
                     rotate_left
                     · simp only [Act.put,V9,VA,VB,i64_w,i32_w]
                       rfl
                     refine pure_ (i := 19) (N := some 53) (v := ?_) (a' := ?_) #[U,U,U,U,U,U,U,U,U,U,U,U,U,U,U,U,U,U,U,U,Z,Z,Z,Z] rfl rfl (Zs HT_.out (by kernel_rfl)) (fun _ _ _ h => h) (Or.inl ⟨by rfl,?_⟩) ?_ ?_;rotate_left
                     · intro w'
                       go_simp;with_reducible rfl
                     rotate_left
                     · simp only [Act.put,V9,VA,VB,i64_w,i32_w]
                       rfl
                     refine last_ (i := 20) (N := none) #[U,U,U,U,U,U,U,U,U,U,U,U,U,U,U,U,U,U,U,U,U,Z,Z,Z] rfl rfl (XB HT_.out (by kernel_rfl)) (by decide) (fun K hK => ?_);refine skip_ (w1 := ?_) (by rfl) rfl ?_ ?_;rotate_left
                     · go_simp
                       rfl
                     refine hK.out _ _ ?_;clear hK K;refine pure_ (i := 21) (N := some 54) (v := ?_) (a' := ?_) #[U,U,U,U,U,U,U,U,U,U,U,U,U,U,U,U,U,U,U,U,U,U,Z,Z] rfl rfl (Zs HT_.out (by kernel_rfl)) (fun _ _ _ h => h) (Or.inl ⟨by rfl,?_⟩) ?_ ?_;rotate_left
                     · intro w'
                       go_simp;with_reducible rfl
                     rotate_left
                     · simp only [Act.put,V9,VA,VB,i64_w,i32_w]
                       rfl
                     refine pure_ (i := 22) (N := some 55) (v := ?_) (a' := ?_) #[U,U,U,U,U,U,U,U,U,U,U,U,U,U,U,U,U,U,U,U,U,U,U,Z] rfl rfl (Zs HT_.out (by kernel_rfl)) (fun _ _ _ h => h) (Or.inl ⟨by rfl,?_⟩) ?_ ?_;rotate_left
                     · intro w'
                       go_simp;with_reducible rfl
                     rotate_left
                     · simp only [Act.put,V9,VA,VB,i64_w,i32_w]
                       rfl
                     refine last_ (i := 23) (N := none) #[U,U,U,U,U,U,U,U,U,U,U,U,U,U,U,U,U,U,U,U,U,U,U,U] rfl rfl (XB HT_.out (by kernel_rfl)) (by decide) (fun K hK => ?_);refine skip_ (w1 := ?_) (by rfl) rfl ?_ ?_;rotate_left
                     · go_simp
                       rfl
                     refine hK.out _ _ ?_;clear hK K;refine done_ (XV HT_.out (by kernel_rfl)) ?_;have p19 : 0 ≤ (x17_1 : Int) := of_decide_eq_true (by first | (with_reducible assumption) | assumption);have q19 : (x17_1 : Int) < ((x8_1.length : Int) : Int) := of_decide_eq_true (by first | (with_reducible assumption) | assumption);replace p19 := eq_true p19;replace q19 := eq_true q19
                     try go_wp2_with (first | ((with_reducible refine Zw (f := 72) rfl ?_);refine ZP (some 60) rfl rfl Try.func72 (by kernel_rfl) rfl #[.agg #[.int .i64 (wrap64 (((Ze x8_1 x17_1).f0) + a1)),.int .i64 (wrap64 (((Ze x8_1 x17_1).f1) + a2)),.int .i64 ((Ze x8_1 x17_1).f2),.int .i64 ((Ze x8_1 x17_1).f3)]] rfl (by (try simp only [List.map_toArray,List.map_cons,List.map_nil]);first | done | rfl | (simp only [List.length_drop,List.length_take];rfl)) ?_;(with_reducible refine (Xk.calls (wrap64 (((Ze x8_1 x17_1).f0) + a1)) (wrap64 (((Ze x8_1 x17_1).f1) + a2)) ((Ze x8_1 x17_1).f2) ((Ze x8_1 x17_1).f3) true _ A20.out).mono ?_);rintro e w25 ⟨rfl,hb⟩;refine ⟨_,rfl,?_⟩;have n0_ := Zb.mk (Kd.Xa (by (with_reducible repeat (first | apply Kd.Zj | apply Kd.Zi | apply Kd.Zm));exact HQ24.out) hb);have n1_ := Zb.mk (Zr (by repeat (first | (with_reducible first | exact HB.out | apply Zf | apply Za | apply Zd | refine Zo ?_ GB17.out | refine Zo ?_ GB17.out) | exact HB.out)) hb);clear HO_8;clear HB;have HO_8 := n0_;have HB := n1_;clear n0_ n1_;(try clear hb);(try clear hb2);(try clear hk);(try clear hi)))
                     (try simp only [← hl8_1])
                     go_roundg k1
                     case measure => have := HK1.out;omega
                     case rel => exact ⟨(y524),(wrap64 (x17_1 + 1)),(by first | rfl | (simp;done) | (simp [*];done)),H',⟨by have := HK1.out;omega⟩,⟨by (try simp only [hl8_1]);(with_reducible repeat (first | apply Kd.Zj | apply Kd.Zi | apply Kd.Zm));exact HO_8.out⟩,⟨by repeat (first | (with_reducible first | exact HB.out | apply Zf | apply Za | apply Zd) | exact HB.out)⟩⟩
                   · replace c21 := Bool.eq_false_iff.mpr c21
                     subst c21
                     have H1 : (some (([] : List (S43)),7)) = some (r1,r2) := by rw [if_neg (show ¬ (false = true) by decide)] at H;exact H
                     clear H;have H := H1;clear H1;simp only [Option.some.injEq,Prod.mk.injEq] at H;obtain ⟨rfl,rfl⟩ := H
                     try go_wp2
                     have n0_ := Zb.mk (Kd.Zm HO_8.out);have n1_ := Zb.mk (Zd HB.out);clear HO_8;clear HB;have HO_8 := n0_;have HB := n1_;clear n0_ n1_;have p521 : 0 ≤ (x17_1 : Int) := of_decide_eq_true (by first | (with_reducible assumption) | assumption);have q521 : x17_1 < (x8_1.length : Int) := of_decide_eq_true (by first | (with_reducible assumption) | assumption);obtain ⟨ad521,e521,hx521_0,hx521_1,hx521_2,hx521_3⟩ := Z4 (Kd.Z3 HO_8.out).2.2 x17_1 p521 q521
                     cases e521
                     replace p521 := eq_true p521;replace q521 := eq_true q521;have p522 : 0 ≤ (x17_1 : Int) := of_decide_eq_true (by first | (with_reducible assumption) | assumption);have q522 : x17_1 < (x8_1.length : Int) := of_decide_eq_true (by first | (with_reducible assumption) | assumption);obtain ⟨ad522,e522,hx522_0,hx522_1,hx522_2,hx522_3⟩ := Z4 (Kd.Z3 HO_8.out).2.2 x17_1 p522 q522
                     obtain rfl : ad521 = ad522 := (by injection e522)
                     replace p522 := eq_true p522;replace q522 := eq_true q522;have p17 : 0 ≤ (x17_1 : Int) := of_decide_eq_true (by first | (with_reducible assumption) | assumption);have q17 : (x17_1 : Int) < ((x8_1.length : Int) : Int) := of_decide_eq_true (by first | (with_reducible assumption) | assumption);obtain ⟨go17,co17,eo17,gb17,gl17,cl17,HG17⟩ := Kd.JA HO_8.out (by omega)
                     (first | cases eo17 | (injection eo17 with ea_ en_ ec_;(first | subst ea_ | (injection ea_ with ea_;subst ea_));subst ec_;clear en_))
                     have GB17 := Zb.mk gb17;have GG17 := Zb.mk HG17;clear gb17 gl17 HG17
                     (first | simp only [ZT] at hx521_0 | skip)
                     (first | simp only [ZT] at hx521_1 | skip)
                     (first | simp only [ZT] at hx521_2 | skip)
                     (first | simp only [ZT] at hx521_3 | skip)
                     (first | simp only [ZT] at hx522_0 | skip)
                     (first | simp only [ZT] at hx522_1 | skip)
                     (first | simp only [ZT] at hx522_2 | skip)
                     (first | simp only [ZT] at hx522_3 | skip)
                     obtain ⟨ce17,hcl17,hM17,hcc17,hfr17⟩ := Kd.Qr HO_8.out z43 (x17_1 : Int) p17 q17;obtain rfl := XQ hM17;have hx17_0 : World.cell? _ ⟨go17,(x17_1 : Int).toNat * 4,none⟩ = some (.int .i64 ((Ze x8_1 x17_1).f0)) := hcc17 0 _ rfl;have hx17_1 : World.cell? _ ⟨go17,(x17_1 : Int).toNat * 4 + 1,none⟩ = some (.int .i64 ((Ze x8_1 x17_1).f1)) := hcc17 1 _ rfl;have hx17_2 : World.cell? _ ⟨go17,(x17_1 : Int).toNat * 4 + 2,none⟩ = some (.int .i64 ((Ze x8_1 x17_1).f2)) := hcc17 2 _ rfl;have hx17_3 : World.cell? _ ⟨go17,(x17_1 : Int).toNat * 4 + 3,none⟩ = some (.int .i64 ((Ze x8_1 x17_1).f3)) := hcc17 3 _ rfl;have hf17_0 : World.frozen? _ ⟨go17,(x17_1 : Int).toNat * 4,none⟩ = false := hfr17 0;have hf17_1 : World.frozen? _ ⟨go17,(x17_1 : Int).toNat * 4 + 1,none⟩ = false := hfr17 1;have hf17_2 : World.frozen? _ ⟨go17,(x17_1 : Int).toNat * 4 + 2,none⟩ = false := hfr17 2;have hf17_3 : World.frozen? _ ⟨go17,(x17_1 : Int).toNat * 4 + 3,none⟩ = false := hfr17 3;clear hcl17 hcc17 hfr17 hM17;replace p17 := eq_true p17;replace q17 := eq_true q17;obtain ⟨ce27,hcl27,hM27,hcc27,hfr27⟩ := Kd.Qr HO_8.out z43 (x17_1 : Int) (of_decide_eq_true (by first | (with_reducible assumption) | assumption)) (by have h_ : (x17_1 : Int) < ((x8_1.length : Int) : Int) := of_decide_eq_true (by first | (with_reducible assumption) | assumption);first | exact h_ | (have e_ := (Kd.Z3 HO_8.out).1;omega) | simpa using h_);obtain rfl := XQ hM27;have HP27 := (Kd.R_seg HO_8.out (x17_1 : Int) (of_decide_eq_true (by first | (with_reducible assumption) | assumption)) (by have h_ : (x17_1 : Int) < ((x8_1.length : Int) : Int) := of_decide_eq_true (by first | (with_reducible assumption) | assumption);first | exact h_ | (have e_ := (Kd.Z3 HO_8.out).1;omega) | simpa using h_) (seg := [.int .i64 (wrap64 (((Ze x8_1 x17_1).f0) + a1))]) (j := 0) hcl27 hcc27 (show 1 ≤ 4 from by decide) (x' := (⟨wrap64 (((Ze x8_1 x17_1).f0) + a1),(Ze x8_1 x17_1).f1,(Ze x8_1 x17_1).f2,(Ze x8_1 x17_1).f3⟩ : S43)) (Xs _ _ _ (⟨wrap64 (((Ze x8_1 x17_1).f0) + a1),(Ze x8_1 x17_1).f1,(Ze x8_1 x17_1).f2,(Ze x8_1 x17_1).f3⟩ : S43) ) (fun _ hk => hk)).1;rw [← Ny523.out] at HP27;have HQ27 := Zb.mk HP27;clear hcl27 hcc27 hfr27 hM27 HP27;have p18 : 0 ≤ (x17_1 : Int) := of_decide_eq_true (by first | (with_reducible assumption) | assumption);have q18 : (x17_1 : Int) < ((x8_1.length : Int) : Int) := of_decide_eq_true (by first | (with_reducible assumption) | assumption);replace p18 := eq_true p18;replace q18 := eq_true q18;obtain ⟨ce28,hcl28,hM28,hcc28,hfr28⟩ := Kd.Qr HQ27.out z43 (x17_1 : Int) (of_decide_eq_true (by first | (with_reducible assumption) | assumption)) (by have h_ : (x17_1 : Int) < ((x8_1.length : Int) : Int) := of_decide_eq_true (by first | (with_reducible assumption) | assumption);first | exact h_ | (have e_ := (Kd.Z3 HO_8.out).1;omega) | simpa using h_);obtain rfl := XQ hM28;have HP28 := (Kd.R_seg HQ27.out (x17_1 : Int) (of_decide_eq_true (by first | (with_reducible assumption) | assumption)) (by have h_ : (x17_1 : Int) < ((x8_1.length : Int) : Int) := of_decide_eq_true (by first | (with_reducible assumption) | assumption);first | exact h_ | (have e_ := (Kd.Z3 HO_8.out).1;omega) | simpa using h_) (seg := [.int .i64 (wrap64 (((Ze x8_1 x17_1).f1) + a2))]) (j := 1) hcl28 hcc28 (show 2 ≤ 4 from by decide) (x' := (⟨(Ze y523 x17_1).f0,wrap64 (((Ze x8_1 x17_1).f1) + a2),(Ze y523 x17_1).f2,(Ze y523 x17_1).f3⟩ : S43)) (Xs _ _ _ (⟨(Ze y523 x17_1).f0,wrap64 (((Ze x8_1 x17_1).f1) + a2),(Ze y523 x17_1).f2,(Ze y523 x17_1).f3⟩ : S43) ) (fun _ hk => hk)).1;rw [← Ny524.out] at HP28;have HQ28 := Zb.mk HP28;clear hcl28 hcc28 hfr28 hM28 HP28;refine Qn (n := 24) (S := fun w' => w'.cell? ⟨go17,((x17_1).toNat * 4),none⟩ = some (.int .i64 ((Ze x8_1 x17_1).f0)) ∧ w'.cell? ⟨go17,((x17_1).toNat * 4) + 1,none⟩ = some (.int .i64 ((Ze x8_1 x17_1).f1)) ∧ w'.cell? ⟨go17,((x17_1).toNat * 4) + 2,none⟩ = some (.int .i64 ((Ze x8_1 x17_1).f2)) ∧ w'.cell? ⟨go17,((x17_1).toNat * 4) + 3,none⟩ = some (.int .i64 ((Ze x8_1 x17_1).f3)) ∧ w'.cell? ⟨go17,((x17_1).toNat * 4),none⟩ = some (.int .i64 ((Ze x8_1 x17_1).f0)) ∧ w'.cell? ⟨go17,((x17_1).toNat * 4) + 1,none⟩ = some (.int .i64 ((Ze x8_1 x17_1).f1)) ∧ w'.cell? ⟨go17,((x17_1).toNat * 4) + 2,none⟩ = some (.int .i64 ((Ze x8_1 x17_1).f2)) ∧ w'.cell? ⟨go17,((x17_1).toNat * 4) + 3,none⟩ = some (.int .i64 ((Ze x8_1 x17_1).f3))) (ds := [20,23]) #[Z,Z,Z,Z,Z,Z,Z,Z,Z,Z,Z,Z,Z,Z,Z,Z,Z,Z,Z,Z,Z,Z,Z,Z] (by kernel_rfl) rfl rfl ⟨hx521_0,hx521_1,hx521_2,hx521_3,hx522_0,hx522_1,hx522_2,hx522_3⟩ (fun hHeld => ?_);refine XC ZB.tab9 ZB.bits9 (fun HT_ HW_ => ?_);generalize wr.drew = w26 at HO_8 HB GG17 HQ27 HQ28 hf17_0 hf17_1 hf17_2 hf17_3 hx17_0 hx17_1 hx17_2 hx17_3 hx521_0 hx521_1 hx521_2 hx521_3 hx522_0 hx522_1 hx522_2 hx522_3 hHeld ⊢;refine pure_ (i := 0) (N := some 34) (v := ?_) (a' := ?_) #[U,Z,Z,Z,Z,Z,Z,Z,Z,Z,Z,Z,Z,Z,Z,Z,Z,Z,Z,Z,Z,Z,Z,Z] rfl rfl (Zs HT_.out (by kernel_rfl)) (fun _ _ _ h => h) (Or.inl ⟨by rfl,?_⟩) ?_ ?_;rotate_left
                     · intro w'
                       go_simp;with_reducible rfl
                     rotate_left
                     · simp only [Act.put,V9,VA,VB,i64_w,i32_w]
                       rfl
                     refine pure_ (i := 1) (N := some 35) (v := ?_) (a' := ?_) #[U,U,Z,Z,Z,Z,Z,Z,Z,Z,Z,Z,Z,Z,Z,Z,Z,Z,Z,Z,Z,Z,Z,Z] rfl rfl (Zs HT_.out (by kernel_rfl)) (fun _ _ _ h => h) (Or.inl ⟨by rfl,?_⟩) ?_ ?_;rotate_left
                     · intro w'
                       go_simp;with_reducible rfl
                     rotate_left
                     · simp only [Act.put,V9,VA,VB,i64_w,i32_w]
                       rfl
                     refine pure_ (i := 2) (N := some 36) (v := ?_) (a' := ?_) #[U,U,U,Z,Z,Z,Z,Z,Z,Z,Z,Z,Z,Z,Z,Z,Z,Z,Z,Z,Z,Z,Z,Z] rfl rfl (Zs HT_.out (by kernel_rfl)) (fun _ _ _ h => h) (Or.inl ⟨by rfl,?_⟩) ?_ ?_;rotate_left
                     · intro w'
                       go_simp;with_reducible rfl
                     rotate_left
                     · simp only [Act.put,V9,VA,VB,i64_w,i32_w]
                       rfl
                     refine pure_ (i := 3) (N := some 37) (v := ?_) (a' := ?_) #[U,U,U,U,Z,Z,Z,Z,Z,Z,Z,Z,Z,Z,Z,Z,Z,Z,Z,Z,Z,Z,Z,Z] rfl rfl (Zs HT_.out (by kernel_rfl)) (fun _ _ _ h => h) (Or.inl ⟨by rfl,?_⟩) ?_ ?_;rotate_left
                     · intro w'
                       go_simp;with_reducible rfl
                     rotate_left
                     · simp only [Act.put,V9,VA,VB,i64_w,i32_w]
                       rfl
                     refine pure_ (i := 4) (N := some 38) (v := ?_) (a' := ?_) #[U,U,U,U,U,Z,Z,Z,Z,Z,Z,Z,Z,Z,Z,Z,Z,Z,Z,Z,Z,Z,Z,Z] rfl rfl (Zs HT_.out (by kernel_rfl)) (fun _ _ _ h => h) (Or.inl ⟨by rfl,?_⟩) ?_ ?_;rotate_left
                     · intro w'
                       go_simp;with_reducible rfl
                     rotate_left
                     · simp only [Act.put,V9,VA,VB,i64_w,i32_w]
                       rfl
                     refine pure_ (i := 5) (N := some 39) (v := ?_) (a' := ?_) #[U,U,U,U,U,U,Z,Z,Z,Z,Z,Z,Z,Z,Z,Z,Z,Z,Z,Z,Z,Z,Z,Z] rfl rfl (Zs HT_.out (by kernel_rfl)) (fun _ _ _ h => h) (Or.inl ⟨by rfl,?_⟩) ?_ ?_;rotate_left
                     · intro w'
                       go_simp;with_reducible rfl
                     rotate_left
                     · simp only [Act.put,V9,VA,VB,i64_w,i32_w]
                       rfl
                     refine pure_ (i := 6) (N := some 40) (v := ?_) (a' := ?_) #[U,U,U,U,U,U,U,Z,Z,Z,Z,Z,Z,Z,Z,Z,Z,Z,Z,Z,Z,Z,Z,Z] rfl rfl (Zs HT_.out (by kernel_rfl)) (fun _ _ _ h => h) (Or.inl ⟨by rfl,?_⟩) ?_ ?_;rotate_left
                     · intro w'
                       go_simp;with_reducible rfl
                     rotate_left
                     · simp only [Act.put,V9,VA,VB,i64_w,i32_w]
                       rfl
                     refine pure_ (i := 7) (N := some 41) (v := ?_) (a' := ?_) #[U,U,U,U,U,U,U,U,Z,Z,Z,Z,Z,Z,Z,Z,Z,Z,Z,Z,Z,Z,Z,Z] rfl rfl (Zs HT_.out (by kernel_rfl)) (fun _ _ _ h => h) (Or.inl ⟨by rfl,?_⟩) ?_ ?_;rotate_left
                     · intro w'
                       go_simp;with_reducible rfl
                     rotate_left
                     · simp only [Act.put,V9,VA,VB,i64_w,i32_w]
                       rfl
                     refine pure_ (i := 9) (N := some 43) (v := ?_) (a' := ?_) #[U,U,U,U,U,U,U,U,Z,U,Z,Z,Z,Z,Z,Z,Z,Z,Z,Z,Z,Z,Z,Z] rfl rfl (Zs HT_.out (by kernel_rfl)) (fun _ _ _ h => h) (Or.inl ⟨by rfl,?_⟩) ?_ ?_;rotate_left
                     · intro w'
                       go_simp;with_reducible rfl
                     rotate_left
                     · simp only [Act.put,V9,VA,VB,i64_w,i32_w]
                       rfl
                     refine pure_ (i := 11) (N := some 45) (v := ?_) (a' := ?_) #[U,U,U,U,U,U,U,U,Z,U,Z,U,Z,Z,Z,Z,Z,Z,Z,Z,Z,Z,Z,Z] rfl rfl (Zs HT_.out (by kernel_rfl)) (fun _ _ _ h => h) (Or.inl ⟨by rfl,?_⟩) ?_ ?_;rotate_left
                     · intro w'
                       go_simp;with_reducible rfl
                     rotate_left
                     · simp only [Act.put,V9,VA,VB,i64_w,i32_w]
                       rfl
                     refine pure_ (i := 12) (N := some 46) (v := ?_) (a' := ?_) #[U,U,U,U,U,U,U,U,Z,U,Z,U,U,Z,Z,Z,Z,Z,Z,Z,Z,Z,Z,Z] rfl rfl (Zs HT_.out (by kernel_rfl)) (fun _ _ _ h => h) (Or.inl ⟨by rfl,?_⟩) ?_ ?_;rotate_left
                     · intro w'
                       go_simp;with_reducible rfl
                     rotate_left
                     · simp only [Act.put,V9,VA,VB,i64_w,i32_w]
                       rfl
                     refine pure_ (i := 13) (N := some 47) (v := ?_) (a' := ?_) #[U,U,U,U,U,U,U,U,Z,U,Z,U,U,U,Z,Z,Z,Z,Z,Z,Z,Z,Z,Z] rfl rfl (Zs HT_.out (by kernel_rfl)) (fun _ _ _ h => h) (Or.inl ⟨by rfl,?_⟩) ?_ ?_;rotate_left
                     · intro w'
                       go_simp;with_reducible rfl
                     rotate_left
                     · simp only [Act.put,V9,VA,VB,i64_w,i32_w]
                       rfl
                     refine pure_ (i := 14) (N := some 48) (v := ?_) (a' := ?_) #[U,U,U,U,U,U,U,U,Z,U,Z,U,U,U,U,Z,Z,Z,Z,Z,Z,Z,Z,Z] rfl rfl (Zs HT_.out (by kernel_rfl)) (fun _ _ _ h => h) (Or.inl ⟨by rfl,?_⟩) ?_ ?_;rotate_left
                     · intro w'
                       go_simp;with_reducible rfl
                     rotate_left
                     · simp only [Act.put,V9,VA,VB,i64_w,i32_w]
                       rfl
                     refine pure_ (i := 16) (N := some 50) (v := ?_) (a' := ?_) #[U,U,U,U,U,U,U,U,Z,U,Z,U,U,U,U,Z,U,Z,Z,Z,Z,Z,Z,Z] rfl rfl (Zs HT_.out (by kernel_rfl)) (fun _ _ _ h => h) (Or.inl ⟨by rfl,?_⟩) ?_ ?_;rotate_left
                     · intro w'
                       go_simp;with_reducible rfl
                     rotate_left
                     · simp only [Act.put,V9,VA,VB,i64_w,i32_w]
                       rfl
                     refine take_ (i := 8) (N := some 42) (v := ?_) (a' := ?_) #[U,U,U,U,U,U,U,U,U,U,Z,U,U,U,U,Z,U,Z,Z,Z,Z,Z,Z,Z] rfl rfl (ZQ HT_.out HW_.out (by kernel_rfl)) (fun _ _ _ h => h) (Or.inl ⟨by rfl,?_⟩) hHeld ?_ ?_;rotate_left
                     · rintro w' ⟨s0,s1,s2,s3,s4,s5,s6,s7⟩
                       go_simp;with_reducible rfl
                     rotate_left
                     · simp only [Act.put,V9,VA,VB,i64_w,i32_w]
                       rfl
                     refine pure_ (i := 10) (N := some 44) (v := ?_) (a' := ?_) #[U,U,U,U,U,U,U,U,U,U,U,U,U,U,U,Z,U,Z,Z,Z,Z,Z,Z,Z] rfl rfl (Zs HT_.out (by kernel_rfl)) (fun _ _ _ h => h) (Or.inl ⟨by rfl,?_⟩) ?_ ?_;rotate_left
                     · intro w'
                       go_simp;with_reducible rfl
                     rotate_left
                     · simp only [Act.put,V9,VA,VB,i64_w,i32_w]
                       rfl
                     refine take_ (i := 15) (N := some 49) (v := ?_) (a' := ?_) #[U,U,U,U,U,U,U,U,U,U,U,U,U,U,U,U,U,Z,Z,Z,Z,Z,Z,Z] rfl rfl (ZQ HT_.out HW_.out (by kernel_rfl)) (fun _ _ _ h => h) (Or.inl ⟨by rfl,?_⟩) hHeld ?_ ?_;rotate_left
                     · rintro w' ⟨s0,s1,s2,s3,s4,s5,s6,s7⟩
                       go_simp;with_reducible rfl
                     rotate_left
                     · simp only [Act.put,V9,VA,VB,i64_w,i32_w]
                       rfl
                     refine pure_ (i := 17) (N := some 51) (v := ?_) (a' := ?_) #[U,U,U,U,U,U,U,U,U,U,U,U,U,U,U,U,U,U,Z,Z,Z,Z,Z,Z] rfl rfl (Zs HT_.out (by kernel_rfl)) (fun _ _ _ h => h) (Or.inl ⟨by rfl,?_⟩) ?_ ?_;rotate_left
                     · intro w'
                       go_simp;with_reducible rfl
                     rotate_left
                     · simp only [Act.put,V9,VA,VB,i64_w,i32_w]
                       rfl
                     refine pure_ (i := 18) (N := some 52) (v := ?_) (a' := ?_) #[U,U,U,U,U,U,U,U,U,U,U,U,U,U,U,U,U,U,U,Z,Z,Z,Z,Z] rfl rfl (Zs HT_.out (by kernel_rfl)) (fun _ _ _ h => h) (Or.inl ⟨by rfl,?_⟩) ?_ ?_;rotate_left
                     · intro w'
                       go_simp;with_reducible rfl
                     rotate_left
                     · simp only [Act.put,V9,VA,VB,i64_w,i32_w]
                       rfl
                     refine pure_ (i := 19) (N := some 53) (v := ?_) (a' := ?_) #[U,U,U,U,U,U,U,U,U,U,U,U,U,U,U,U,U,U,U,U,Z,Z,Z,Z] rfl rfl (Zs HT_.out (by kernel_rfl)) (fun _ _ _ h => h) (Or.inl ⟨by rfl,?_⟩) ?_ ?_;rotate_left
                     · intro w'
                       go_simp;with_reducible rfl
                     rotate_left
                     · simp only [Act.put,V9,VA,VB,i64_w,i32_w]
                       rfl
                     refine last_ (i := 20) (N := none) #[U,U,U,U,U,U,U,U,U,U,U,U,U,U,U,U,U,U,U,U,U,Z,Z,Z] rfl rfl (XB HT_.out (by kernel_rfl)) (by decide) (fun K hK => ?_);refine skip_ (w1 := ?_) (by rfl) rfl ?_ ?_;rotate_left
                     · go_simp
                       rfl
                     refine hK.out _ _ ?_;clear hK K;refine pure_ (i := 21) (N := some 54) (v := ?_) (a' := ?_) #[U,U,U,U,U,U,U,U,U,U,U,U,U,U,U,U,U,U,U,U,U,U,Z,Z] rfl rfl (Zs HT_.out (by kernel_rfl)) (fun _ _ _ h => h) (Or.inl ⟨by rfl,?_⟩) ?_ ?_;rotate_left
                     · intro w'
                       go_simp;with_reducible rfl
                     rotate_left
                     · simp only [Act.put,V9,VA,VB,i64_w,i32_w]
                       rfl
                     refine pure_ (i := 22) (N := some 55) (v := ?_) (a' := ?_) #[U,U,U,U,U,U,U,U,U,U,U,U,U,U,U,U,U,U,U,U,U,U,U,Z] rfl rfl (Zs HT_.out (by kernel_rfl)) (fun _ _ _ h => h) (Or.inl ⟨by rfl,?_⟩) ?_ ?_;rotate_left
                     · intro w'
                       go_simp;with_reducible rfl
                     rotate_left
                     · simp only [Act.put,V9,VA,VB,i64_w,i32_w]
                       rfl
                     refine last_ (i := 23) (N := none) #[U,U,U,U,U,U,U,U,U,U,U,U,U,U,U,U,U,U,U,U,U,U,U,U] rfl rfl (XB HT_.out (by kernel_rfl)) (by decide) (fun K hK => ?_);refine skip_ (w1 := ?_) (by rfl) rfl ?_ ?_;rotate_left
                     · go_simp
                       rfl
                     refine hK.out _ _ ?_;clear hK K;refine done_ (XV HT_.out (by kernel_rfl)) ?_;have p19 : 0 ≤ (x17_1 : Int) := of_decide_eq_true (by first | (with_reducible assumption) | assumption);have q19 : (x17_1 : Int) < ((x8_1.length : Int) : Int) := of_decide_eq_true (by first | (with_reducible assumption) | assumption);replace p19 := eq_true p19;replace q19 := eq_true q19
                     try go_wp2_with (first | ((with_reducible refine Zw (f := 72) rfl ?_);refine ZP (some 60) rfl rfl Try.func72 (by kernel_rfl) rfl #[.agg #[.int .i64 (wrap64 (((Ze x8_1 x17_1).f0) + a1)),.int .i64 (wrap64 (((Ze x8_1 x17_1).f1) + a2)),.int .i64 ((Ze x8_1 x17_1).f2),.int .i64 ((Ze x8_1 x17_1).f3)]] rfl (by (try simp only [List.map_toArray,List.map_cons,List.map_nil]);first | done | rfl | (simp only [List.length_drop,List.length_take];rfl)) ?_;(with_reducible refine (Xk.calls (wrap64 (((Ze x8_1 x17_1).f0) + a1)) (wrap64 (((Ze x8_1 x17_1).f1) + a2)) ((Ze x8_1 x17_1).f2) ((Ze x8_1 x17_1).f3) false _ A20.out).mono ?_);rintro e w29 ⟨rfl,hb⟩;refine ⟨_,rfl,?_⟩;have n0_ := Zb.mk (Kd.Xa (by (with_reducible repeat (first | apply Kd.Zj | apply Kd.Zi | apply Kd.Zm));exact HQ28.out) hb);have n1_ := Zb.mk (Zr (by repeat (first | (with_reducible first | exact HB.out | apply Zf | apply Za | apply Zd | refine Zo ?_ GB17.out | refine Zo ?_ GB17.out) | exact HB.out)) hb);clear HO_8;clear HB;have HO_8 := n0_;have HB := n1_;clear n0_ n1_;(try clear hb);(try clear hb2);(try clear hk);(try clear hi)))
                     go_ret2
                     exact ⟨_,by first | rfl | (simp [Zu,Zt] <;> rfl) | (simp [*,Zu,Zt] <;> rfl),by first | exact Kd.R_nil _ _ _ _ _ | exact Kd.N_nil _ _ _ _ _ | exact Kd.V_nil _ _ _ _ _ | exact Kd.Q_nil _ _ _ _ _ | exact Kd.S_nil _ _ _ _ _,by repeat (first | (with_reducible first | exact HB.out | apply Zf | apply Za | apply Zd) | exact HB.out)⟩
                 · rw [if_neg c16] at H
                   exact absurd H (by simp)
               · rw [if_neg c15] at H
                 exact absurd H (by simp)
     · rw [if_neg c10] at H
       have c10b0 : decide (x17_1 < (t518.length : Int)) = false := decide_eq_false c10
       have c10b9 : decide (x17_1 < (x8_1.length : Int)) = false := by have e_ := (Kd.Z3 HO_8.out).1;have e2_ : (t518.length : Int) = (x8_1.length : Int) := (by omega);rw [e2_] at c10b0;exact c10b0
       clear c10;simp only [Option.some.injEq,Prod.mk.injEq] at H;obtain ⟨rfl,rfl⟩ := H
       go_wp2
       go_ret2
       exact ⟨_,by first | rfl | (simp [Zu,Zt] <;> rfl) | (simp [*,Zu,Zt] <;> rfl),by (with_reducible repeat (first | apply Kd.Zj | apply Kd.Zi | apply Kd.Zm));exact HO_8.out,by repeat (first | (with_reducible first | exact HB.out | apply Zf | apply Za | apply Zd) | exact HB.out)⟩
 · replace c5 := Bool.eq_false_iff.mpr c5
   subst c5
   have H1 : (some (([] : List (S43)),1)) = some (r1,r2) := by rw [if_neg (show ¬ (false = true) by decide)] at H;exact H
   clear H;have H := H1;clear H1;simp only [Option.some.injEq,Prod.mk.injEq] at H;obtain ⟨rfl,rfl⟩ := H
   go_enter Try.func29,Try.ntmps29
   go_wp2_with (first | ((with_reducible refine Zw (f := 22) rfl ?_);refine ZP (some 11) rfl rfl Try.func22 (by kernel_rfl) rfl #[.slice A0 l0.length c0] rfl (by (try simp only [List.map_toArray,List.map_cons,List.map_nil]);first | done | rfl | (simp only [List.length_drop,List.length_take];rfl)) ?_;(with_reducible refine (Z7.calls _ _ l0 false _ ?side1 ?side2 A4.out).mono ?_);(case side1 => repeat (first | exact HR0.out | (with_reducible refine Kd.Z9 ?_ _) | (with_reducible refine Kd.ZA ?_ _) | (with_reducible refine Kd.ZO ?_)));(case side2 => exact HC0.out);rintro e w30 ⟨rfl,hb⟩;refine ⟨_,rfl,?_⟩;have n0_ := Zb.mk (Zr (by repeat (first | (with_reducible first | exact HB.out | apply Zf | apply Za | apply Zd) | exact HB.out)) hb);clear HB;have HB := n0_;clear n0_;(try clear hb);(try clear hb2);(try clear hk);(try clear hi)))
   go_ret2
   exact ⟨_,by first | rfl | (simp [Zu,Zt] <;> rfl) | (simp [*,Zu,Zt] <;> rfl),by first | exact Kd.R_nil _ _ _ _ _ | exact Kd.N_nil _ _ _ _ _ | exact Kd.V_nil _ _ _ _ _ | exact Kd.Q_nil _ _ _ _ _ | exact Kd.S_nil _ _ _ _ _,by repeat (first | (with_reducible first | exact HB.out | apply Zf | apply Za | apply Zd) | exact HB.out)⟩
end Go.Proofs.Ythbajahklnpkcaa.PA

namespace Go.Proofs.Ythbajahklnpkcaa.PA
open Go.RowKit Go.Proofs.YthbajahklnpkcaaW.PrintWords Go.Proofs.YthbajahklnpkcaaW.PrintLast Go.Proofs.YthbajahklnpkcaaW.PrintMore
set_option linter.unusedVariables false
set_option linter.unusedSimpArgs false
theorem rregion (l : List S43) (hl : l.length ≤ 9223372036854775807) : Ev (fun k => X1.f k l) (regionL l,regionE l) := by
 unfold X1.f regionL regionE;refine Ev.bind (rrects l hl) ?_
 cases hb : badL l with
 | true => exact Ev.val (fun k => rfl)
 | false =>
  rw [if_neg (show ¬ (false = true) by decide),if_neg (show ¬ (false = true) by decide),if_neg (show ¬ (false = true) by decide)]
  by_cases h2 : 200 < l.length
  · exact Ev.val (fun k => by rw [if_pos rfl,if_pos (by omega),if_pos h2,if_pos h2])
  · rw [if_neg h2,if_neg h2]
    refine Ev.congr (h := fun k => (Zc.f k l ([] : List (S43)) 1).bind fun t466 => ((ZW.f k t466).bind fun bt469 => (some (bt469.1,bt469.2)))) (fun k => by rw [if_pos rfl,if_neg (by omega)]) ?_;refine Ev.bind (rcanonical l [] (by omega) (by simp) hb rfl 1 (.inl rfl)) ?_;have ho : outOf orB l [] = full (TR (isH 1) l []) 40000 := YT rfl hb rfl;have hln := out_len orB l [] (by omega) (by simp);rw [← ho];clear ho;generalize outOf orB l [] = m at hln;exact Ev.bind (rtold m hln) (Ev.val (fun k => rfl))
theorem rHas (l : List S43) (x y : Int) (hl : l.length ≤ 9223372036854775807) : ∃ p,Q1.f l x y = some p ∧ Ev (fun k => XD.f k l x y) p := by
 unfold Q1.f Z7.f XE.f XD.f
 cases hv : validB l with
 | false =>
  refine ⟨(false,1),rfl,?_⟩;refine Ev.bind (Xz l hl) ?_;rw [hv];exact Ev.val (fun k => rfl)
 | true =>
  refine ⟨(covL l x y,0),rfl,?_⟩;refine Ev.bind (Xz l hl) ?_;rw [hv];refine Ev.congr (h := fun k => (Z0.f k l x y).bind fun t476 => (some (t476,0))) (fun k => if_pos rfl) ?_;exact Ev.bind (rhas l x y hl) (Ev.val (fun k => rfl))
theorem rrarea_l0 (l : List S43) (hl : l.length ≤ 200) (hb : badL l = false) : ∀ (n kk : Nat) (s : Int),l.length - kk = n → kk ≤ l.length → 0 ≤ s → s ≤ (kk : Int) * 400000000 → Ev (fun k => ZH.l0 k l s kk) (s + areaL (l.drop kk),0) := by
 intro n
 induction n with
 | zero =>
  intro kk s hn hk h0 h1;rw [List.drop_eq_nil_of_le (by omega)];refine Ev.pure (fun k => ?_);simp only [ZH.l0];rw [if_neg (by omega)];simp [areaL]
 | succ n ih =>
  intro kk s hn hk h0 h1
  have hlt : kk < l.length := by omega
  have hx := Xr l kk hlt;have hw : wrap64 ((kk : Int) + 1) = ((kk + 1 : Nat) : Int) := Xi (by omega)
  have i0 : (0 : Int) ≤ (kk : Int) := by omega
  have i1 : (kk : Int) < (l.length : Int) := by omega
  have hmem : Ze l (kk : Int) ∈ l := List.mem_of_getElem? hx;obtain ⟨a0,a1⟩ := Vg (XH.mp hb _ hmem)
  have hd : areaL (l.drop kk) = (Ze l (kk : Int)).f2 * (Ze l (kk : Int)).f3 + areaL (l.drop (kk + 1)) := by
   have e : l[kk] = Ze l (kk : Int) := by rw [List.getElem?_eq_getElem hlt] at hx;exact Option.some.inj hx
   rw [List.drop_eq_getElem_cons hlt,areaL,e]
  rw [hd,← Int.add_assoc];generalize hm : (Ze l (kk : Int)).f2 * (Ze l (kk : Int)).f3 = m at a0 a1
  have hs : (kk : Int) * 400000000 + 400000000 = ((kk + 1 : Nat) : Int) * 400000000 := by omega
  have hbig : (kk : Int) * 400000000 ≤ 200 * 400000000 := by omega
  refine Ev.step (fun k => ?_) (ih (kk + 1) (s + m) (by omega) (by omega) (by omega) (by omega));simp only [ZH.l0];rw [if_pos i1,if_pos i0,hm,w64 (x := m) (by omega) (by omega),w64 (x := s + m) (by omega) (by omega),hw]
theorem rArea (l : List S43) (hl : l.length ≤ 9223372036854775807) : ∃ p,Ev (fun k => Xg.f k l) p ∧ Ev (fun k => ZH.f k l) p := by
 cases hv : validB l with
 | false =>
  refine ⟨(0,1),Ev.val (fun k => ?_),?_⟩
  · unfold Xg.f Z7.f
    rw [hv];rfl
  · unfold ZH.f
    refine Ev.bind (Xz l hl) ?_;rw [hv];exact Ev.val (fun k => rfl)
 | true =>
  refine ⟨(areaL l,0),rarea l hv,?_⟩;have v := (Qe l).mp hv;unfold ZH.f;refine Ev.bind (Xz l hl) ?_;rw [hv];have h0 := rrarea_l0 l v.1 v.2.1 _ 0 0 rfl (Nat.zero_le _) (by omega) (by omega);rw [List.drop_zero,Int.zero_add] at h0;exact Ev.congr (fun k => if_pos rfl) h0
end Go.Proofs.Ythbajahklnpkcaa.PA

namespace Go.Proofs.Ythbajahklnpkcaa.PA
open Go.RowKit Go.Proofs.YthbajahklnpkcaaW.PrintWords Go.Proofs.YthbajahklnpkcaaW.PrintLast Go.Proofs.YthbajahklnpkcaaW.PrintMore
set_option linter.unusedVariables false
set_option linter.unusedSimpArgs false
def mv (dx dy : Int) (r : S43) : S43 := ⟨wrap64 (r.f0 + dx),wrap64 (r.f1 + dy),r.f2,r.f3⟩
theorem rd43_mid (dx dy : Int) (l : List S43) (kk : Nat) (hlt : kk < l.length) : Ze ((l.take kk).map (mv dx dy) ++ l.drop kk) (kk : Int) = l[kk] := Qi (by
 have htk : (l.take kk).length = kk := by rw [List.length_take];omega
 rw [List.getElem?_append_right (by rw [List.length_map,htk];exact Nat.le_refl _),List.length_map,htk,Nat.sub_self,List.drop_eq_getElem_cons hlt]
 rfl)
theorem set_mid (dx dy : Int) (l : List S43) (kk : Nat) (hlt : kk < l.length) (x : S43) : ((l.take kk).map (mv dx dy) ++ l.drop kk).set kk x = (l.take kk).map (mv dx dy) ++ x :: l.drop (kk + 1) := by
 have htk : ((l.take kk).map (mv dx dy)).length = kk := by rw [List.length_map,List.length_take];omega
 rw [List.set_append_right _ _ (by omega),htk,Nat.sub_self,List.drop_eq_getElem_cons hlt,List.set_cons_zero]
theorem take_mv (dx dy : Int) (l : List S43) (kk : Nat) (hlt : kk < l.length) : (l.take kk).map (mv dx dy) ++ mv dx dy l[kk] :: l.drop (kk + 1) = (l.take (kk + 1)).map (mv dx dy) ++ l.drop (kk + 1) := by
 rw [List.take_add_one,List.getElem?_eq_getElem hlt,List.map_append,List.append_assoc];rfl
theorem set_twice (a b : List S43) (x y : S43) : (a ++ x :: b).set a.length y = a ++ y :: b := by
 rw [List.set_append_right _ _ (Nat.le_refl _),Nat.sub_self,List.set_cons_zero]
theorem pmove_l0 (dx dy : Int) (h1 : ¬ dx < -30000) (h2 : ¬ dx > 30000) (h3 : ¬ dy < -30000) (h4 : ¬ dy > 30000) (l : List S43) (hl : l.length ≤ 200) : ∀ (n kk : Nat),l.length - kk = n → kk ≤ l.length →
 Ev (fun k => ZB.l0 k dx dy ((l.take kk).map (mv dx dy) ++ l.drop kk) (l.length : Int) kk) (if badL ((l.drop kk).map (mv dx dy)) = true then ([],7) else (l.map (mv dx dy),0)) := by
 intro n
 induction n with
 | zero =>
  intro kk hn hk;rw [List.drop_eq_nil_of_le (by omega),List.take_of_length_le (by omega),List.append_nil];refine Ev.pure (fun k => ?_);simp only [ZB.l0];rw [if_neg (by omega)];rfl
 | succ n ih =>
  intro kk hn hk
  have hlt : kk < l.length := by omega
  have hw : wrap64 ((kk : Int) + 1) = ((kk + 1 : Nat) : Int) := Xi (by omega)
  have i0 : (0 : Int) ≤ (kk : Int) := by omega
  have i1 : (kk : Int) < (l.length : Int) := by omega
  have hlen : ((l.take kk).map (mv dx dy) ++ l.drop kk).length = l.length := by simp;omega
  have htk : ((l.take kk).map (mv dx dy)).length = kk := by rw [List.length_map,List.length_take];omega
  have h := ih (kk + 1) (by omega) (by omega)
  have hb : badL ((l.drop kk).map (mv dx dy)) = (!okR (mv dx dy l[kk]) || badL ((l.drop (kk + 1)).map (mv dx dy))) := by
   rw [List.drop_eq_getElem_cons hlt,List.map_cons];rfl
  rw [hb];have e0 := rd43_mid dx dy l kk hlt
  have common : ∀ k,ZB.l0 (k + 1) dx dy ((l.take kk).map (mv dx dy) ++ l.drop kk) (l.length : Int) kk = if okR (mv dx dy l[kk]) = true then ZB.l0 k dx dy ((l.take (kk + 1)).map (mv dx dy) ++ l.drop (kk + 1)) (l.length : Int) ((kk + 1 : Nat) : Int) else some ([],7) := by
   intro k;simp only [ZB.l0];rw [if_pos i1,if_neg h1,if_neg h2,if_neg h3,if_neg h4,if_pos i0,if_pos (by rw [hlen];exact i1),e0];simp only [Option.bind_some,Int.toNat_natCast];rw [set_mid dx dy l kk hlt]
   have e1 : Ze ((l.take kk).map (mv dx dy) ++ (⟨wrap64 (l[kk].f0 + dx),l[kk].f1,l[kk].f2,l[kk].f3⟩ : S43) :: l.drop (kk + 1)) (kk : Int) = ⟨wrap64 (l[kk].f0 + dx),l[kk].f1,l[kk].f2,l[kk].f3⟩ := Qi (by
    rw [List.getElem?_append_right (by omega),htk,Nat.sub_self]
    rfl)
   rw [e1]
   have hs : ∀ y : S43,((l.take kk).map (mv dx dy) ++ (⟨wrap64 (l[kk].f0 + dx),l[kk].f1,l[kk].f2,l[kk].f3⟩ : S43) :: l.drop (kk + 1)).set kk y = (l.take kk).map (mv dx dy) ++ y :: l.drop (kk + 1) := fun y => by
    have := set_twice ((l.take kk).map (mv dx dy)) (l.drop (kk + 1)) ⟨wrap64 (l[kk].f0 + dx),l[kk].f1,l[kk].f2,l[kk].f3⟩ y;rw [htk] at this;exact this
   rw [hs,hw,← take_mv dx dy l kk hlt];rfl
  cases ho : okR (mv dx dy l[kk]) with
  | false => exact Ev.pure (fun k => by rw [common k,ho];rfl)
  | true => exact Ev.step (fun k => by rw [common k,ho,if_pos rfl]) h
theorem rmove_l0 (dx dy : Int) (l : List S43) (hl : l.length ≤ 200) : ∀ (n kk : Nat) (acc : List S43),l.length - kk = n → kk ≤ l.length → acc.length ≤ kk →
 Ev (fun k => Zq.l0 k l dx dy acc kk) (madeL (acc ++ (l.drop kk).map (mv dx dy)),madeE (acc ++ (l.drop kk).map (mv dx dy))) := by
 intro n
 induction n with
 | zero =>
  intro kk acc hn hk ha;rw [List.drop_eq_nil_of_le (by omega),List.map_nil,List.append_nil];refine Ev.step (h := fun k => (ZW.f k acc).bind fun bt535 => (some (bt535.1,bt535.2))) (fun k => by simp only [Zq.l0];rw [if_neg (by omega)]) ?_;exact Ev.bind (rtold acc (by omega)) (Ev.val (fun k => rfl))
 | succ n ih =>
  intro kk acc hn hk ha
  have hlt : kk < l.length := by omega
  have hw : wrap64 ((kk : Int) + 1) = ((kk + 1 : Nat) : Int) := Xi (by omega)
  have i0 : (0 : Int) ≤ (kk : Int) := by omega
  have i1 : (kk : Int) < (l.length : Int) := by omega
  have e0 : Ze l (kk : Int) = l[kk] := Qi (List.getElem?_eq_getElem hlt)
  have hd : acc ++ (l.drop kk).map (mv dx dy) = (acc ++ [mv dx dy l[kk]]) ++ (l.drop (kk + 1)).map (mv dx dy) := by
   rw [List.drop_eq_getElem_cons hlt,List.map_cons,List.append_assoc];rfl
  rw [hd];refine Ev.step (fun k => ?_) (ih (kk + 1) (acc ++ [mv dx dy l[kk]]) (by omega) (by omega) (by simp;omega));simp only [Zq.l0];rw [if_pos i1,if_pos i0,if_pos (by omega),e0,hw];rfl
theorem mv_out {l : List S43} (h0 : 0 < l.length) (hb : badL l = false) {dx dy : Int} (ho : dx < -20000 ∨ dx > 20000 ∨ dy < -20000 ∨ dy > 20000) (h1 : ¬ dx < -30000) (h2 : ¬ dx > 30000) (h3 : ¬ dy < -30000) (h4 : ¬ dy > 30000) : badL (l.map (mv dx dy)) = true := by
 have hr := (XU l[0]).mp (XH.mp hb l[0] (List.getElem_mem _));unfold badL;rw [List.any_eq_true];refine ⟨mv dx dy l[0],List.mem_map.mpr ⟨l[0],List.getElem_mem _,rfl⟩,?_⟩
 cases hk : okR (mv dx dy l[0]) with
 | false => rfl
 | true =>
  exfalso;have hm := (XU _).mp hk;simp only [mv] at hm;rw [w64 (x := l[0].f0 + dx) (by omega) (by omega),w64 (x := l[0].f1 + dy) (by omega) (by omega)] at hm;omega
theorem mv_made {l : List S43} (hl : l.length ≤ 200) (dx dy : Int) : (madeL (l.map (mv dx dy)),madeE (l.map (mv dx dy))) = if badL (l.map (mv dx dy)) = true then (([] : List S43),(7 : Int)) else (l.map (mv dx dy),0) := by
 unfold madeL madeE;split
 · rfl
 · rw [if_neg (by rw [List.length_map];omega),if_neg (by rw [List.length_map];omega)]
theorem rMove (l : List S43) (dx dy : Int) (hl : l.length ≤ 9223372036854775807) : ∃ p,Ev (fun k => ZB.f k l dx dy) p ∧ Ev (fun k => Zq.f k l dx dy) p := by
 have hP : Ev (fun k => Zq.j0 k l dx dy true) (([] : List S43),(7 : Int)) := Ev.pure (fun k => by simp only [Zq.j0,if_true])
 cases hv : validB l with
 | false =>
  refine ⟨([],1),Ev.val (fun k => ?_),?_⟩
  · unfold ZB.f Z7.f
    rw [hv];rfl
  · unfold Zq.f
    refine Ev.bind (Xz l hl) ?_;rw [hv];exact Ev.val (fun k => rfl)
 | true =>
  have v := (Qe l).mp hv
  have hp : ∀ k,ZB.f k l dx dy = ZB.l0 k dx dy l (l.length : Int) 0 := by
   intro k;unfold ZB.f Z7.f XF.f;rw [hv,if_pos (by have := v.1;omega)];rfl
  have hq : ∀ {p},Ev (fun k => if (l.length : Int) > 0 then (if dx < (-20000) then (Zq.j0 k l dx dy true) else (if dx > 20000 then (Zq.j0 k l dx dy true) else (if dy < (-20000) then (Zq.j0 k l dx dy true) else (Zq.j0 k l dx dy (decide (dy > 20000)))))) else (Zq.j0 k l dx dy false)) p → Ev (fun k => Zq.f k l dx dy) p := by
   intro p h;unfold Zq.f;refine Ev.bind (Xz l hl) ?_;rw [hv];exact Ev.congr (fun k => if_pos rfl) h
  have hF : Ev (fun k => Zq.j0 k l dx dy false) (madeL (l.map (mv dx dy)),madeE (l.map (mv dx dy))) := by
   have h := rmove_l0 dx dy l v.1 _ 0 [] rfl (Nat.zero_le _) (Nat.le_refl _);rw [List.nil_append,List.drop_zero] at h;refine Ev.step (fun k => ?_) h;simp only [Zq.j0];rw [if_neg (by decide)];rfl
  by_cases h0 : 0 < l.length
  · have h0z : (l.length : Int) > 0 := by omega
    have step7 : (dx < -30000 ∨ dx > 30000 ∨ dy < -30000 ∨ dy > 30000) → Ev (fun k => ZB.f k l dx dy) (([] : List S43),(7 : Int)) := by
     intro ho;refine Ev.congr hp (Ev.pure (fun k => ?_));simp only [ZB.l0];rw [if_pos (by omega)]
     by_cases q1 : dx < -30000
     · rw [if_pos q1]
     · rw [if_neg q1]
       by_cases q2 : dx > 30000
       · rw [if_pos q2]
       · rw [if_neg q2]
         by_cases q3 : dy < -30000
         · rw [if_pos q3]
         · rw [if_neg q3,if_pos (by omega)]
    have stepP : ¬ dx < -30000 → ¬ dx > 30000 → ¬ dy < -30000 → ¬ dy > 30000 → Ev (fun k => ZB.f k l dx dy) (if badL (l.map (mv dx dy)) = true then ([],7) else (l.map (mv dx dy),0)) := by
     intro q1 q2 q3 q4;have h := pmove_l0 dx dy q1 q2 q3 q4 l v.1 _ 0 rfl (Nat.zero_le _);rw [List.take_zero,List.map_nil,List.nil_append,List.drop_zero] at h;exact Ev.congr hp h
    by_cases ho : dx < -20000 ∨ dx > 20000 ∨ dy < -20000 ∨ dy > 20000
    · refine ⟨([],7),?_,hq (Ev.congr (h := fun k => Zq.j0 k l dx dy true) (fun k => ?_) hP)⟩
      · by_cases h3 : dx < -30000 ∨ dx > 30000 ∨ dy < -30000 ∨ dy > 30000
        · exact step7 h3
        · have h := stepP (by omega) (by omega) (by omega) (by omega)
          rw [if_pos (mv_out h0 v.2.1 ho (by omega) (by omega) (by omega) (by omega))] at h;exact h
      · rw [if_pos h0z]
        by_cases q1 : dx < -20000
        · rw [if_pos q1]
        · rw [if_neg q1]
          by_cases q2 : dx > 20000
          · rw [if_pos q2]
          · rw [if_neg q2]
            by_cases q3 : dy < -20000
            · rw [if_pos q3]
            · rw [if_neg q3,decide_eq_true (show dy > 20000 by omega)]
    · have h := stepP (by omega) (by omega) (by omega) (by omega)
      rw [← mv_made v.1] at h;refine ⟨_,h,hq (Ev.congr (h := fun k => Zq.j0 k l dx dy false) (fun k => ?_) hF)⟩;rw [if_pos h0z,if_neg (by omega),if_neg (by omega),if_neg (by omega),decide_eq_false (by omega)]
  · have hnil : l = [] := List.length_eq_zero_iff.mp (by omega)
    refine ⟨(madeL (l.map (mv dx dy)),madeE (l.map (mv dx dy))),Ev.congr hp (Ev.pure (fun k => ?_)),hq (Ev.congr (fun k => if_neg (by omega)) hF)⟩;subst hnil;rfl
end Go.Proofs.Ythbajahklnpkcaa.PA

namespace Go.Proofs.Ythbajahklnpkcaa.PA
open Go.RowKit Go.Proofs.YthbajahklnpkcaaW.PrintWords Go.Proofs.YthbajahklnpkcaaW.PrintLast Go.Proofs.YthbajahklnpkcaaW.PrintMore
set_option linter.unusedVariables false
set_option linter.unusedSimpArgs false
theorem Yk {xs : List Int} (h : xs.Pairwise (· < ·)) (h0 : 0 < xs.length) : xs.getD 0 0 ∈ xs ∧ xs.getD (xs.length - 1) 0 ∈ xs ∧ ∀ x ∈ xs,xs.getD 0 0 ≤ x ∧ x ≤ xs.getD (xs.length - 1) 0 := by
 have e0 : xs.getD 0 0 = xs[0] := by simp [List.getD_eq_getElem?_getD,h0]
 have e1 : xs.getD (xs.length - 1) 0 = xs[xs.length - 1]'(by omega) := by
  rw [List.getD_eq_getElem?_getD,List.getElem?_eq_getElem (by omega)];rfl
 rw [e0,e1];refine ⟨List.getElem_mem _,List.getElem_mem _,fun x hx => ?_⟩;obtain ⟨i,hi,rfl⟩ := List.getElem_of_mem hx;have hp := List.pairwise_iff_getElem.mp h;constructor
 · rcases Nat.eq_zero_or_pos i with rfl | hi0
   · exact Int.le_refl _
   · exact Int.le_of_lt (hp 0 i h0 hi hi0)
 · rcases Nat.lt_or_ge i (xs.length - 1) with hlt | hge
   · exact Int.le_of_lt (hp i (xs.length - 1) hi (by omega) hlt)
   · have : i = xs.length - 1 := by omega
     subst this;exact Int.le_refl _
def minL (f : S43 → Int) (m : Int) (l : List S43) : Int := l.foldl (fun m r => if f r < m then f r else m) m
def maxL (f : S43 → Int) (m : Int) (l : List S43) : Int := l.foldl (fun m r => if f r > m then f r else m) m
theorem Jp (f : S43 → Int) : ∀ (l : List S43) (m : Int),minL f m l ≤ m ∧ (∀ r ∈ l,minL f m l ≤ f r) ∧ (minL f m l = m ∨ ∃ r ∈ l,minL f m l = f r)
 | [],m => ⟨Int.le_refl _,by simp,.inl rfl⟩
 | r :: l,m => by
  obtain ⟨h1,h2,h3⟩ := Jp f l (if f r < m then f r else m);have e : minL f m (r :: l) = minL f (if f r < m then f r else m) l := rfl;rw [e]
  by_cases hlt : f r < m
  · rw [if_pos hlt] at h1 h2 h3 ⊢
    refine ⟨by omega,fun q hq => ?_,?_⟩
    · rcases List.mem_cons.mp hq with rfl | hq
      · exact h1
      · exact h2 q hq
    · rcases h3 with h3 | ⟨q,hq,h3⟩
      · exact .inr ⟨r,by simp,h3⟩
      · exact .inr ⟨q,by simp [hq],h3⟩
  · rw [if_neg hlt] at h1 h2 h3 ⊢
    refine ⟨h1,fun q hq => ?_,?_⟩
    · rcases List.mem_cons.mp hq with rfl | hq
      · omega
      · exact h2 q hq
    · rcases h3 with h3 | ⟨q,hq,h3⟩
      · exact .inl h3
      · exact .inr ⟨q,by simp [hq],h3⟩
theorem Jk (f : S43 → Int) : ∀ (l : List S43) (m : Int),m ≤ maxL f m l ∧ (∀ r ∈ l,f r ≤ maxL f m l) ∧ (maxL f m l = m ∨ ∃ r ∈ l,maxL f m l = f r)
 | [],m => ⟨Int.le_refl _,by simp,.inl rfl⟩
 | r :: l,m => by
  obtain ⟨h1,h2,h3⟩ := Jk f l (if f r > m then f r else m);have e : maxL f m (r :: l) = maxL f (if f r > m then f r else m) l := rfl;rw [e]
  by_cases hlt : f r > m
  · rw [if_pos hlt] at h1 h2 h3 ⊢
    refine ⟨by omega,fun q hq => ?_,?_⟩
    · rcases List.mem_cons.mp hq with rfl | hq
      · exact h1
      · exact h2 q hq
    · rcases h3 with h3 | ⟨q,hq,h3⟩
      · exact .inr ⟨r,by simp,h3⟩
      · exact .inr ⟨q,by simp [hq],h3⟩
  · rw [if_neg hlt] at h1 h2 h3 ⊢
    refine ⟨h1,fun q hq => ?_,?_⟩
    · rcases List.mem_cons.mp hq with rfl | hq
      · omega
      · exact h2 q hq
    · rcases h3 with h3 | ⟨q,hq,h3⟩
      · exact .inl h3
      · exact .inr ⟨q,by simp [hq],h3⟩
end Go.Proofs.Ythbajahklnpkcaa.PA

namespace Go.Proofs.Ythbajahklnpkcaa.PA
open Go.RowKit Go.Proofs.YthbajahklnpkcaaW.PrintWords Go.Proofs.YthbajahklnpkcaaW.PrintLast Go.Proofs.YthbajahklnpkcaaW.PrintMore
set_option linter.unusedVariables false
set_option linter.unusedSimpArgs false
theorem addB_desc {acc : List Bd} {u v : Int} (s : List Sp) (h : Desc acc u) (huv : u < v) : Desc (addB acc u v s) v := by
 obtain ⟨h1,h2⟩ := h
 cases s with
 | nil => exact ⟨h1,fun e he => ⟨(h2 e he).1,by have := (h2 e he).2;omega⟩⟩
 | cons s0 s =>
  cases acc with
  | nil => exact ⟨by simp [addB],by intro e he;simp [addB] at he;subst he;exact ⟨huv,by simp⟩⟩
  | cons q r =>
   obtain ⟨a,b,t⟩ := q;have hq := h2 (a,b,t) (by simp);simp only at hq;rw [List.pairwise_cons] at h1
   by_cases hb : b = u ∧ t = s0 :: s
   · simp only [addB,hb,and_self,if_true]
     refine ⟨List.pairwise_cons.mpr ⟨fun e he => h1.1 e he,h1.2⟩,?_⟩;intro e he
     rcases List.mem_cons.mp he with rfl | he
     · exact ⟨by simp only;omega,by simp⟩
     · have := h2 e (by simp [he]);exact ⟨this.1,by omega⟩
   · simp only [addB,hb,if_false]
     refine ⟨List.pairwise_cons.mpr ⟨fun e he => (h2 e he).2,List.pairwise_cons.mpr h1⟩,?_⟩;intro e he
     rcases List.mem_cons.mp he with rfl | he
     · exact ⟨huv,by simp⟩
     · have := h2 e he;exact ⟨this.1,by omega⟩
theorem YH (f : Int → List Sp) : ∀ (n : Nat) (u : Int) (acc : List Bd),Desc acc u → Desc (unitB f n u acc) (u + n)
 | 0,u,acc,h => by
  rw [show u + ((0 : Nat) : Int) = u by omega];exact h
 | n + 1,u,acc,h => by
  have := YH f n (u + 1) _ (addB_desc (f u) h (show u < u + 1 by omega));rw [show u + ((n + 1 : Nat) : Int) = u + 1 + (n : Int) by omega];exact this
def AllS (B : List Bd) : Prop := ∀ b ∈ B,OkS b.2.2
theorem addB_S {acc : List Bd} {u v : Int} {s : List Sp} (h : AllS acc) (hs : OkS s) : AllS (addB acc u v s) := by
 cases s with
 | nil => exact h
 | cons s0 s =>
  cases acc with
  | nil => intro e he;simp [addB] at he;subst he;exact hs
  | cons q r =>
   obtain ⟨a,b,t⟩ := q
   by_cases hb : b = u ∧ t = s0 :: s
   · simp only [addB,hb,and_self,if_true]
     intro e he
     rcases List.mem_cons.mp he with rfl | he
     · exact hs
     · exact h e (by simp [he])
   · simp only [addB,hb,if_false]
     intro e he
     rcases List.mem_cons.mp he with rfl | he
     · exact hs
     · exact h e he
theorem Vu (f : Int → List Sp) (hf : ∀ y,OkS (f y)) : ∀ (n : Nat) (u : Int) (acc : List Bd),AllS acc → AllS (unitB f n u acc)
 | 0,u,acc,h => h
 | n + 1,u,acc,h => Vu f hf n (u + 1) _ (addB_S h (hf u))
theorem rows_ok (P : Int → Int → Bool) (M : Nat) (y : Int) : OkS (rows P M y) := fun s hs => YM (fun x => P x y) (2 * M) (-(M : Int)) [] (by intro s hs;cases hs) s (by simpa [rows] using hs)
theorem Jg (P : Int → Int → Bool) (M : Nat) : Desc (form P M) (-(M : Int) + (2 * M : Nat)) := YH _ _ _ _ ⟨List.Pairwise.nil,by intro e he;cases he⟩
theorem form_S (P : Int → Int → Bool) (M : Nat) : AllS (form P M) := Vu _ (rows_ok P M) _ _ _ (by intro e he;cases he)
theorem full_pos (P : Int → Int → Bool) (M : Nat) : ∀ r ∈ full P M,0 < r.f2 ∧ 0 < r.f3 := by
 intro r hr;unfold full flatB bandL at hr;rw [List.mem_flatMap] at hr;obtain ⟨b,hb,hr⟩ := hr;rw [List.mem_map] at hr;obtain ⟨s,hs,rfl⟩ := hr
 have hb' : b ∈ form P M := by simpa using hb
 have h1 := form_S P M b hb' s hs;have h2 := ((Jg P M).2 b hb').1;exact ⟨by show 0 < s.2 - s.1;omega,by show 0 < b.2.1 - b.1;omega⟩
theorem full_up (P : Int → Int → Bool) (M : Nat) : (full P M).Pairwise (fun a b => a.f1 ≤ b.f1) := by
 unfold full flatB;rw [List.pairwise_flatMap];constructor
 · intro b hb
   unfold bandL;rw [List.pairwise_map];exact List.pairwise_of_forall (fun _ _ => Int.le_refl _)
 · rw [List.pairwise_reverse]
   have h := Jg P M;have h3 := h.2;refine List.Pairwise.imp_of_mem (fun {e e'} he he' hle => ?_) h.1;intro x hx y hy;unfold bandL at hx hy;rw [List.mem_map] at hx hy;obtain ⟨s,hs,rfl⟩ := hx;obtain ⟨t,ht,rfl⟩ := hy;have := (h3 e' he').1;show e'.1 ≤ e.1;omega
theorem JR {xs : List Int} (h : xs.Pairwise (· < ·)) {m : Int} (hm : m ∈ xs) (hle : ∀ x ∈ xs,m ≤ x) : xs.getD 0 0 = m := by
 obtain ⟨h1,_,h3⟩ := Yk h (List.length_pos_of_mem hm);have a := (h3 m hm).1;have b := hle _ h1;omega
theorem Vv {xs : List Int} (h : xs.Pairwise (· < ·)) {m : Int} (hm : m ∈ xs) (hle : ∀ x ∈ xs,x ≤ m) : xs.getD (xs.length - 1) 0 = m := by
 obtain ⟨_,h1,h3⟩ := Yk h (List.length_pos_of_mem hm);have a := (h3 m hm).2;have b := hle _ h1;omega
def xr (r : S43) : Int := wrap64 (r.f0 + r.f2)
def yr (r : S43) : Int := wrap64 (r.f1 + r.f3)
theorem xr_eq {r : S43} (h : okR r = true) : xr r = r.f0 + r.f2 := by
 have := (XU r).mp h;exact w64 (by omega) (by omega)
theorem yr_eq {r : S43} (h : okR r = true) : yr r = r.f1 + r.f3 := by
 have := (XU r).mp h;exact w64 (by omega) (by omega)
theorem minL_cons (f : S43 → Int) (r0 : S43) (rest : List S43) : (∀ r ∈ r0 :: rest,minL f (f r0) rest ≤ f r) ∧ ∃ r ∈ r0 :: rest,minL f (f r0) rest = f r := by
 obtain ⟨h1,h2,h3⟩ := Jp f rest (f r0);refine ⟨fun r hr => ?_,?_⟩
 · rcases List.mem_cons.mp hr with rfl | hr
   · exact h1
   · exact h2 r hr
 · rcases h3 with h3 | ⟨r,hr,h3⟩
   · exact ⟨r0,by simp,h3⟩
   · exact ⟨r,by simp [hr],h3⟩
theorem Jm (f : S43 → Int) (r0 : S43) (rest : List S43) : (∀ r ∈ r0 :: rest,f r ≤ maxL f (f r0) rest) ∧ ∃ r ∈ r0 :: rest,maxL f (f r0) rest = f r := by
 obtain ⟨h1,h2,h3⟩ := Jk f rest (f r0);refine ⟨fun r hr => ?_,?_⟩
 · rcases List.mem_cons.mp hr with rfl | hr
   · exact h1
   · exact h2 r hr
 · rcases h3 with h3 | ⟨r,hr,h3⟩
   · exact ⟨r0,by simp,h3⟩
   · exact ⟨r,by simp [hr],h3⟩
def boundR (r0 : S43) (rest : List S43) : S43 := ⟨minL (·.f0) r0.f0 rest,r0.f1,wrap64 (maxL xr (xr r0) rest - minL (·.f0) r0.f0 rest),wrap64 (maxL yr (yr r0) rest - r0.f1)⟩
theorem around_full (r0 : S43) (rest : List S43) (hv : validRegionB (r0 :: rest)) : aroundR (r0 :: rest) = boundR r0 rest ∧ 0 < (edgX (r0 :: rest)).length ∧ 0 < (edgY (r0 :: rest)).length := by
 have hok := XH.mp hv.2.1
 have hpos : ∀ r ∈ r0 :: rest,0 < r.f2 ∧ 0 < r.f3 := fun r hr => full_pos _ _ r (hv.2.2.symm ▸ hr)
 have hup : (r0 :: rest).Pairwise (fun a b => a.f1 ≤ b.f1) := hv.2.2 ▸ full_up (TR orB (r0 :: rest) []) 40000
 have hle : ∀ r ∈ r0 :: rest,r0.f1 ≤ r.f1 := by
  intro r hr
  rcases List.mem_cons.mp hr with rfl | hr
  · exact Int.le_refl _
  · exact (List.pairwise_cons.mp hup).1 r hr
 clear hup hv;generalize hl : r0 :: rest = l at hok hpos hle;obtain ⟨hx1,hx2⟩ := Qy (fun r => r.f0) (fun r => wrap64 (r.f0 + r.f2)) l;obtain ⟨hy1,hy2⟩ := Qy (fun r => r.f1) (fun r => wrap64 (r.f1 + r.f3)) l
 have inX : ∀ r ∈ l,r.f0 ∈ edgX l ∧ xr r ∈ edgX l := fun r hr => by
  obtain ⟨m1,m2⟩ := Yb (fa := fun r => r.f0) (fb := fun r => wrap64 (r.f0 + r.f2)) hr (hpos r hr).1 (hpos r hr).2;exact ⟨(hx2 _).mpr m1,(hx2 _).mpr m2⟩
 have inY : ∀ r ∈ l,r.f1 ∈ edgY l ∧ yr r ∈ edgY l := fun r hr => by
  obtain ⟨m1,m2⟩ := Yb (fa := fun r => r.f1) (fb := fun r => wrap64 (r.f1 + r.f3)) hr (hpos r hr).1 (hpos r hr).2;exact ⟨(hy2 _).mpr m1,(hy2 _).mpr m2⟩
 have outX : ∀ x ∈ edgX l,∃ r ∈ l,r.f0 ≤ x ∧ x ≤ xr r := fun x hx => by
  obtain ⟨r,hr,h⟩ := Ya ((hx2 x).mp hx);have e := xr_eq (hok r hr);have p := hpos r hr;refine ⟨r,hr,?_⟩
  rcases h with rfl | rfl
  · exact ⟨Int.le_refl _,by rw [e];omega⟩
  · exact ⟨by show r.f0 ≤ xr r;rw [e];omega,Int.le_refl _⟩
 have outY : ∀ x ∈ edgY l,∃ r ∈ l,r.f1 ≤ x ∧ x ≤ yr r := fun x hx => by
  obtain ⟨r,hr,h⟩ := Ya ((hy2 x).mp hx);have e := yr_eq (hok r hr);have p := hpos r hr;refine ⟨r,hr,?_⟩
  rcases h with rfl | rfl
  · exact ⟨Int.le_refl _,by rw [e];omega⟩
  · exact ⟨by show r.f1 ≤ yr r;rw [e];omega,Int.le_refl _⟩
 obtain ⟨a1,q1,hq1,b1⟩ := minL_cons (·.f0) r0 rest;obtain ⟨a2,q2,hq2,b2⟩ := Jm xr r0 rest;obtain ⟨a3,q3,hq3,b3⟩ := Jm yr r0 rest;rw [hl] at a1 a2 a3 hq1 hq2 hq3
 have f1 : (edgX l).getD 0 0 = minL (·.f0) r0.f0 rest := JR hx1 (by rw [b1];exact (inX q1 hq1).1) (fun x hx => by
  obtain ⟨r,hr,h,_⟩ := outX x hx
  exact Int.le_trans (a1 r hr) h)
 have f2 : (edgX l).getD ((edgX l).length - 1) 0 = maxL xr (xr r0) rest := Vv hx1 (by rw [b2];exact (inX q2 hq2).2) (fun x hx => by
  obtain ⟨r,hr,_,h⟩ := outX x hx
  exact Int.le_trans h (a2 r hr))
 have f3 : (edgY l).getD ((edgY l).length - 1) 0 = maxL yr (yr r0) rest := Vv hy1 (by rw [b3];exact (inY q3 hq3).2) (fun x hx => by
  obtain ⟨r,hr,_,h⟩ := outY x hx
  exact Int.le_trans h (a3 r hr))
 have hr0 : r0 ∈ l := by rw [← hl];simp
 have f4 : (edgY l).getD 0 0 = r0.f1 := JR hy1 (inY r0 hr0).1 (fun x hx => by
  obtain ⟨r,hr,h,_⟩ := outY x hx
  exact Int.le_trans (hle r hr) h)
 refine ⟨?_,List.length_pos_of_mem (inX r0 hr0).1,List.length_pos_of_mem (inY r0 hr0).1⟩;unfold aroundR boundR;rw [f1,f2,f3,f4]
end Go.Proofs.Ythbajahklnpkcaa.PA

namespace Go.Proofs.Ythbajahklnpkcaa.PA
open Go.RowKit Go.Proofs.YthbajahklnpkcaaW.PrintWords Go.Proofs.YthbajahklnpkcaaW.PrintLast Go.Proofs.YthbajahklnpkcaaW.PrintMore
set_option linter.unusedVariables false
set_option linter.unusedSimpArgs false
theorem rbounds_l0 (l : List S43) (hl : l.length ≤ 200) (low : Int) : ∀ (n kk : Nat) (lft rgt hgh : Int),l.length - kk = n → kk ≤ l.length →
 Ev (fun k => Zz.l0 k l lft rgt low hgh kk) (minL (·.f0) lft (l.drop kk),low,wrap64 (maxL xr rgt (l.drop kk) - minL (·.f0) lft (l.drop kk)),wrap64 (maxL yr hgh (l.drop kk) - low)) := by
 intro n
 induction n with
 | zero =>
  intro kk lft rgt hgh hn hk;rw [List.drop_eq_nil_of_le (by omega)];refine Ev.pure (fun k => ?_);simp only [Zz.l0];rw [if_neg (by omega)];rfl
 | succ n ih =>
  intro kk lft rgt hgh hn hk
  have hlt : kk < l.length := by omega
  have hw : wrap64 ((kk : Int) + 1) = ((kk + 1 : Nat) : Int) := Xi (by omega)
  have i0 : (0 : Int) ≤ (kk : Int) := by omega
  have i1 : (kk : Int) < (l.length : Int) := by omega
  have e0 : Ze l (kk : Int) = l[kk] := Qi (List.getElem?_eq_getElem hlt);have h := ih (kk + 1) (if l[kk].f0 < lft then l[kk].f0 else lft) (if xr l[kk] > rgt then xr l[kk] else rgt) (if yr l[kk] > hgh then yr l[kk] else hgh) (by omega) (by omega);rw [List.drop_eq_getElem_cons hlt];refine Ev.step (h := fun k => Zz.j1 k l (if l[kk].f0 < lft then l[kk].f0 else lft) rgt low hgh kk) (fun k => ?_) (Ev.step (fun k => ?_) h)
  · simp only [Zz.l0]
    rw [if_pos i1,if_pos i0,e0]
    split <;> rfl
  · simp only [Zz.j1]
    rw [if_pos i0,if_pos i1,e0,hw];show (if xr l[kk] > rgt then (if yr l[kk] > hgh then _ else _) else (if yr l[kk] > hgh then _ else _)) = _
    by_cases h1 : xr l[kk] > rgt
    · by_cases h2 : yr l[kk] > hgh
      · rw [if_pos h1,if_pos h2,if_pos h1,if_pos h2];rfl
      · rw [if_pos h1,if_neg h2,if_pos h1,if_neg h2];rfl
    · by_cases h2 : yr l[kk] > hgh
      · rw [if_neg h1,if_pos h2,if_neg h1,if_pos h2];rfl
      · rw [if_neg h1,if_neg h2,if_neg h1,if_neg h2]
theorem rbounds (r0 : S43) (rest : List S43) (hl : (r0 :: rest).length ≤ 200) : Ev (fun k => Zz.f k (r0 :: rest)) ((boundR r0 rest).f0,(boundR r0 rest).f1,(boundR r0 rest).f2,(boundR r0 rest).f3) := by
 have h := rbounds_l0 (r0 :: rest) hl r0.f1 _ 1 r0.f0 (xr r0) (yr r0) rfl (by simp);have e1 : (r0 :: rest).drop 1 = rest := rfl;rw [e1] at h;refine Ev.congr (fun k => ?_) h;unfold Zz.f
 have hp : (0 : Int) < ((r0 :: rest).length : Int) := by rw [List.length_cons];omega
 rw [if_neg (by omega),if_pos hp];rfl
theorem rBounds (l : List S43) (hl : l.length ≤ 9223372036854775807) : ∃ p,XZ.f l = some p ∧ Ev (fun k => X2.f k l) p := by
 unfold XZ.f Z7.f X2.f
 cases hv : validB l with
 | false =>
  refine ⟨(0,0,0,0,1),rfl,?_⟩;refine Ev.bind (Xz l hl) ?_;rw [hv];exact Ev.val (fun k => rfl)
 | true =>
  have v := (Qe l).mp hv;have hR := Xz l hl;rw [hv] at hR
  cases l with
  | nil =>
   refine ⟨(0,0,0,0,0),rfl,?_⟩;refine Ev.bind hR ?_;refine Ev.congr (fun k => if_pos rfl) ?_;exact Ev.val (fun k => rfl)
  | cons r0 rest =>
   obtain ⟨ea,hx,hy⟩ := around_full r0 rest v
   have eA : Xv.f (r0 :: rest) = some ((boundR r0 rest).f0,(boundR r0 rest).f1,(boundR r0 rest).f2,(boundR r0 rest).f3) := by
    unfold Xv.f;rw [if_neg (by simp),if_pos ⟨by have := v.1;omega,hx,hy⟩,ea]
   have hB := rbounds r0 rest v.1;generalize boundR r0 rest = b at eA hB;have eV : Xk.f b.f0 b.f1 b.f2 b.f3 = some (okR b) := rfl;have eR := Q9 b
   cases hk : okR b with
   | true =>
    rw [hk] at eV eR;refine ⟨(b.f0,b.f1,b.f2,b.f3,0),?_,?_⟩
    · simp only [Option.bind_some,if_true]
      rw [eA];simp only [Option.bind_some];rw [eV];rfl
    · refine Ev.bind hR ?_
      refine Ev.congr (fun k => if_pos rfl) ?_;refine Ev.bind hB ?_;refine Ev.val (fun k => ?_);simp only [];rw [eR];rfl
   | false =>
    rw [hk] at eV eR;refine ⟨(0,0,0,0,7),?_,?_⟩
    · simp only [Option.bind_some,if_true]
      rw [eA];simp only [Option.bind_some];rw [eV];rfl
    · refine Ev.bind hR ?_
      refine Ev.congr (fun k => if_pos rfl) ?_;refine Ev.bind hB ?_;refine Ev.val (fun k => ?_);simp only [];rw [eR];rfl
end Go.Proofs.Ythbajahklnpkcaa.PA

namespace Go.Proofs.Ythbajahklnpkcaa.PA
open Go.RowKit Go.Shelf Go.Proofs.YthbajahklnpkcaaW.PrintWords Go.Proofs.YthbajahklnpkcaaW.PrintLast Go.Proofs.YthbajahklnpkcaaW.PrintMore
set_option linter.unusedVariables false
set_option linter.unusedSimpArgs false
theorem five (x y : Int) (A : Option Addr) (c : Nat) (ll : List S43) (W : World) (hr : Kd.C k43 W A ll.length ll) (hc : ll.length ≤ c) : S5 x y A c ll W := by
 have hl := Kd.C_max hr;obtain ⟨⟨p1,p2⟩,h1,e1⟩ := rHas ll x y hl;obtain ⟨⟨n1,n2⟩,e2,e3⟩ := rArea ll hl;obtain ⟨⟨q1,q2,q3,q4,q5⟩,h4,e4⟩ := rBounds ll hl;obtain ⟨⟨m,m2⟩,e5,e6⟩ := rMove ll x y hl;obtain ⟨k1,g1⟩ := e1.some;obtain ⟨k2,g2⟩ := e2.some;obtain ⟨k3,g3⟩ := e3.some;obtain ⟨k4,g4⟩ := e4.some;obtain ⟨k5,g5⟩ := e5.some;obtain ⟨k6,g6⟩ := e6.some;refine ⟨p1,p2,n1,n2,q1,q2,q3,q4,q5,m,m2,?_,?_,?_,?_,?_,?_,?_,?_⟩
 · intro W' h;exact ⟨Q1.calls A c ll x y p1 p2 W' (Kd.Z5 hr h) hc h1⟩
 · intro W' h;exact ⟨XD.calls k1 A c ll x y p1 p2 W' (Kd.Z5 hr h) hc g1⟩
 · intro W' h;exact ⟨Xg.calls k2 A c ll n1 n2 W' (Kd.Z5 hr h) hc g2⟩
 · intro W' h;exact ⟨ZH.calls k3 A c ll n1 n2 W' (Kd.Z5 hr h) hc g3⟩
 · intro W' h;exact ⟨XZ.calls A c ll q1 q2 q3 q4 q5 W' (Kd.Z5 hr h) hc h4⟩
 · intro W' h;exact ⟨X2.calls k4 A c ll q1 q2 q3 q4 q5 W' (Kd.Z5 hr h) hc g4⟩
 · intro W' h
   exact ⟨(ZB.calls k5 A c ll x y m m2 W' (Kd.Z5 hr h) hc g5).mono (by
    rintro e w' ⟨v,rfl,ho,hb⟩;obtain ⟨B,k,rfl,hk,hC⟩ := Kd.XT ho
    exact ⟨B,k,rfl,hk,hC,hb⟩)⟩
 · intro W' h
   exact ⟨(Zq.calls k6 A c ll x y m m2 W' (Kd.Z5 hr h) hc g6).mono (by
    rintro e w' ⟨v,rfl,ho,hb⟩;obtain ⟨B,k,rfl,hk,hC⟩ := Kd.XT ho
    exact ⟨B,k,rfl,hk,hC,hb⟩)⟩
theorem region_valid (l : List S43) (h : regionE l = 0) : validB (regionL l) = true := by
 unfold regionE at h;unfold regionL
 by_cases hb : badL l = true
 · rw [if_pos hb] at h;exact absurd h (by decide)
 · rw [if_neg hb] at h ⊢
   by_cases h2 : 200 < l.length
   · rw [if_pos h2] at h;exact absurd h (by decide)
   · rw [if_neg h2] at h ⊢
     have hbf : badL l = false := by simpa using hb
     have ho : outOf orB l [] = full (TR orB l []) 40000 := YT rfl hbf rfl;have hI : InBox (TR orB l []) 40000 := inBox_TR rfl hbf rfl;rw [ho] at h ⊢;unfold madeE at h;unfold madeL
     by_cases k1 : badL (full (TR orB l []) 40000) = true
     · rw [if_pos k1] at h;exact absurd h (by decide)
     · rw [if_neg k1] at h ⊢
       by_cases k2 : 200 < (full (TR orB l []) 40000).length
       · rw [if_pos k2] at h;exact absurd h (by decide)
       · rw [if_neg k2]
         exact (Qe _).mpr (validRegion_full hI (by simpa using k1) (by omega))
def heavyB (l : List S43) : Bool := if (l.length : Int) > 250 then true else if (l.length : Int) > 60 then decide ((l.length : Int) ≤ 200) else false
theorem heavy_f (l : List S43) : X8.f l [] = some (heavyB l) := by
 unfold X8.f ZX.f heavyB
 by_cases h1 : (l.length : Int) > 250
 · rw [if_pos h1,if_pos h1];rfl
 · rw [if_neg h1,if_neg h1]
   by_cases h2 : (l.length : Int) > 60
   · rw [if_pos h2,if_pos h2]
     cases decide ((l.length : Int) ≤ 200) <;> rfl
   · rw [if_neg h2,if_neg h2];rfl
theorem regions_calls (A0 : Option Addr) (c0 : Nat) (l : List S43) (x y : Int) (w : World) (hr0 : Kd.C k43 w A0 l.length l) (hc0 : l.length ≤ c0) :
 Calls Try.prog 5 #[.slice A0 l.length c0,.int .i64 x,.int .i64 y] w fun e w' => e = .returned (.bool true) ∧ Below w.heap.size w w' := by
 have hl := Kd.C_max hr0;obtain ⟨k1,g1⟩ := (rregion l hl).some;obtain ⟨k2,g2⟩ := (Xz l hl).some;refine regions_walk0 A0 c0 l (regionL l) x y (regionE l) (heavyB l) (validB l) w (fun W => ⟨awake_ok W⟩) ?_ ?_ ?_ ?_ ?_ ?_ ?_ ?_ hr0 hc0
 · intro W h
   exact ⟨(X8.calls A0 c0 l none 0 [] (heavyB l) W (Kd.Z5 hr0 h) hc0 (J5 W none) (Nat.le_refl _) (heavy_f l)).mono (by
    rintro e w' ⟨rfl,hd⟩
    exact ⟨rfl,hd.below⟩)⟩
 · intro hh W h
   have hle : l.length ≤ 40000 := by
    unfold heavyB at hh;split at hh
    · cases hh
    · omega
   exact ⟨(Xc.calls A0 c0 l (regionL l) (regionE l) W (Kd.Z5 hr0 h) hc0 (if_pos hle)).mono (by
    rintro e w' ⟨v,rfl,ho,hb⟩;obtain ⟨B,k,rfl,hk,hC⟩ := Kd.XT ho
    exact ⟨B,k,rfl,hk,hC,hb⟩)⟩
 · intro W h
   exact ⟨(X1.calls k1 A0 c0 l (regionL l) (regionE l) W (Kd.Z5 hr0 h) hc0 g1).mono (by
    rintro e w' ⟨v,rfl,ho,hb⟩;obtain ⟨B,k,rfl,hk,hC⟩ := Kd.XT ho
    exact ⟨B,k,rfl,hk,hC,hb⟩)⟩
 · intro W B1 B2 j1 j2 mm h1 h2 h3 h4
   obtain ⟨k3,g3⟩ := (rRects mm mm (Kd.C_max h1)).some;rw [eqL_refl] at g3
   exact ⟨(Z6.calls k3 B1 j1 mm B2 j2 mm true W h1 h2 h3 h4 g3).mono (by
    rintro e w' ⟨rfl,hd⟩
    exact ⟨rfl,hd.below⟩)⟩
 · intro W h
   exact ⟨Z7.calls A0 c0 l (validB l) W (Kd.Z5 hr0 h) hc0 rfl⟩
 · intro W h
   exact ⟨Zx.calls k2 A0 c0 l (validB l) W (Kd.Z5 hr0 h) hc0 g2⟩
 · intro he W B k h1 h2
   have := Z7.calls B k (regionL l) (validB (regionL l)) W h1 h2 rfl;rw [region_valid l he] at this;exact ⟨this⟩
 · intro A c ll W h1 h2
   exact five x y A c ll W h1 h2
end Go.Proofs.Ythbajahklnpkcaa.PA

namespace Go.Proofs.Ythbajahklnpkcaa.videoRegions
open Go.ChangeShapes Go.WideShapes Go.ChangeAt Go.RowKit Go.Joins
set_option linter.unusedVariables false
theorem own : ownKnob Try.prog.godebug = none := by kernel_rfl
theorem laidOut : laidOutB Try.prog = true := by kernel_rfl
set_option maxRecDepth 100000 in
theorem lifted (os : Os) (started : os.Started) (H : Type) (enc : TypeId × Value → H) :
 ReturnsInHanded {} Try.checked os 5 .any (Rows.videoRegionsSpec.pre6 enc Try.prog Try.f5 Rows.videoRegionsRow.domain false) (Rows.videoRegionsSpec.post enc Try.prog Try.f5 false true false false) := by
 refine returnsInHanded_of_change_sized (C := Try.checked) own started (by kernel_rfl) Try.func5
  (ChangeSpec.witness6 (enc := enc) (C := Try.checked) false ⟨#[],#[.slice none 0 0,.int .i64 0,.int .i64 0],[]⟩ 8 (by kernel_rfl) (by kernel_rfl) (by kernel_rfl) (by kernel_rfl)) ?_
 intro W base args ds gs before hval0 hW hcnd hsz0 _;have hval : ∀ (j : Nat) t v,Try.f5.params[j]? = some t → args[j]? = some v → Value.okWide Try.prog W .any base t v := hval0;have hW' := hW;obtain ⟨p,q,hA0,hV,rfl,hfz,hnd⟩ := hW;have hA : DataW.TrodAll enc Try.prog W 0 (fun _ => true) true Try.f5.params.toList args.toList ds p := hA0;rw [Try.params5] at hA hval;obtain ⟨v0,vs0,d0,ds0,p0,q0,hargs,rfl,rfl,h0,r0⟩ := trodAll_cons hA;obtain ⟨v1,vs1,d1,ds1,p1,q1,rfl,rfl,rfl,h1,r1⟩ := trodAll_cons r0;obtain ⟨v2,vs2,d2,ds2,p2,q2,rfl,rfl,rfl,h2,r2⟩ := trodAll_cons r1;obtain ⟨rfl,rfl,rfl⟩ := trodAll_nil r2
 obtain rfl : args = #[v0,v1,v2] := by cases args;simp_all
 obtain ⟨rfl,rfl⟩ := trodVars_none hV;obtain ⟨a0,len0,cap0,rfl⟩ := okWide_slice Try.underlying22 (hval 0 22 v0 rfl rfl);have k0 := h0
 have lt0 : ∀ x ∈ p0,x.block < W.heap.size := by obtain ⟨m,hm⟩ := k0;exact DataW.trod_lt m _ _ _ hm
 obtain ⟨zs0,hl0,hc0,hw0,hx0,hy0⟩ : ∃ zs : List PA.S43,zs.length = len0 ∧ len0 ≤ cap0 ∧ (∀ p ∈ zs,(Lit.int .i64 p.f0).wf = true ∧ (Lit.int .i64 p.f1).wf = true ∧ (Lit.int .i64 p.f2).wf = true ∧ (Lit.int .i64 p.f3).wf = true) ∧ (0 < len0 → ∃ ad,a0 = some ad ∧ ∀ j p,zs[j]? = some p → ∀ i u,[Value.int .i64 p.f0,.int .i64 p.f1,.int .i64 p.f2,.int .i64 p.f3][i]? = some u → W.cell? (ad.add (j * 4 + i)) = some u) ∧ len0 ≤ 9223372036854775807 := by
  obtain ⟨fuel,hf⟩ := h0;exact open_rects Try.underlying22 Try.underlying43 (by kernel_rfl) (by kernel_rfl) Try.underlying3 Try.underlying3 Try.underlying3 Try.underlying3 (by simpa [Value.cells] using hf)
 have kd0 := rects_C hl0 hy0 hx0;subst hl0;obtain ⟨a1,rfl,rfl,rfl,w1⟩ := open_int Try.underlying3 (hval 1 3 v1 rfl rfl) h1;obtain ⟨a2,rfl,rfl,rfl,w2⟩ := open_int Try.underlying3 (hval 2 3 v2 rfl rfl) h2;clear hA0 hval0 hsz0;have HC := PA.regions_calls a0 cap0 zs0 a1 a2 W kd0 hc0
 refine HC.mono fun e W' ⟨he,bel⟩ => ?_
 subst he;exact ⟨_,rfl,_,_,_,[],_,[],hW',trodAll_mk1 (shut_bool Try.underlying4 _),(trodAll_cons_mk (Below.trod laidOut (by kernel_rfl) (of_decide_eq_true (by kernel_rfl)) k0 bel lt0) (trodAll_cons_mk (shut_int Try.underlying3 w1) (trodAll_cons_mk (shut_int Try.underlying3 w2) trodAll_mk0))),rfl,bel.frame _,fun h => by cases h⟩
theorem over : Rows.videoRegionsRow.holds Try.pinned (OpenSpec.ofChange Rows.videoRegionsSpec) :=
 OpenClaim.holds_of_wide 5 Try.f5 rfl rfl rfl rfl rfl rfl rfl ⟨rfl,rfl,rfl,rfl,rfl⟩ rfl rfl rfl rfl rfl (by kernel_rfl) Try.func5 (by kernel_rfl)
  (of_decide_eq_true (by kernel_rfl)) (by unfold Func.isWrapper;first | (rw [if_pos (by decide +kernel)];kernel_rfl) | (rw [if_neg (by decide +kernel)];exact ⟨rfl,rfl⟩))
  (fun os started H enc _ => lifted os started H enc)
theorem proved : Rows.VideoRegionsSaid := over
#print axioms proved
end Go.Proofs.Ythbajahklnpkcaa.videoRegions
namespace Go.Proofs.Ythbajahklnpkcaa
theorem videoRegions_holds : Rows.VideoRegionsSaid := videoRegions.proved
end Go.Proofs.Ythbajahklnpkcaa
