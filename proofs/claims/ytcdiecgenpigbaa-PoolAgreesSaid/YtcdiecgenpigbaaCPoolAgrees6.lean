/- PoolAgrees, part 6: what the row is built on. -/
import Derived.Test.YtcdiecgenpigbaaCPoolAgrees5
namespace Go.Proofs.Ytcdiecgenpigbaa.PA
open Go.RowKit Go.Proofs.YtcdiecgenpigbaaW.PrintWords Go.Proofs.YtcdiecgenpigbaaW.PrintLast Go.Proofs.YtcdiecgenpigbaaW.PrintMore
attribute [local go_sem] ZQ ZS ZZ ZY ZL ZM ZT ZU
set_option linter.unusedVariables false
set_option linter.unusedSimpArgs false
def ZA.f (k : Nat) (a0_0 : Int) (a0_1 : Int) (a0_2 : Int) (a0_3 : Int) (a0_4 : Int) (a0_5 : Int) (a1 : Int) : Option ((List (List Int)) × Int × Int) := (Zz.f k a0_0 a0_1 a0_2 a0_3 a0_4 a0_5).bind fun t169 => (if t169 = true then ((Zm.f a1 0 1000000000).bind fun t170 => (if t170 = true then ((Zu.f k a0_0 a0_1 a0_2 a0_3 a0_4 a0_5 a1).bind fun bt171 => (some (bt171.1,bt171.2,0))) else (some (([] : List (List Int)),0,7)))) else (some (([] : List (List Int)),0,1)))
theorem ZA.mono : ∀ a0 a1 a2 a3 a4 a5 a6 k,LeO (ZA.f k a0 a1 a2 a3 a4 a5 a6) (ZA.f (k + 1) a0 a1 a2 a3 a4 a5 a6) := by
 intro a0 a1 a2 a3 a4 a5 a6 k; unfold ZA.f
 repeat' first
  | (with_reducible exact Zz.mono _ _ _ _ _ _ _)
  | (with_reducible exact Zu.mono _ _ _ _ _ _ _ _)
  | (with_reducible exact LeO.refl _)
  | (with_reducible exact LeO.none _)
  | (with_reducible refine LeO.ite ?_ ?_)
  | (with_reducible refine LeO.bind ?_ (fun _ => ?_))
  | exact Zz.mono _ _ _ _ _ _ _
  | exact Zu.mono _ _ _ _ _ _ _ _
  | exact LeO.none _
  | refine LeO.ite ?_ ?_
  | refine LeO.bind ?_ (fun _ => ?_)
set_option maxHeartbeats 8000000 in
set_option maxRecDepth 100000 in
theorem ZA.calls (k : Nat) (a0_0 : Int) (a0_1 : Int) (a0_2 : Int) (a0_3 : Int) (a0_4 : Int) (a0_5 : Int) (a1 : Int) (r1 : List (List Int)) (r2 : Int) (r3 : Int) (w : World) (h : ZA.f k a0_0 a0_1 a0_2 a0_3 a0_4 a0_5 a1 = some (r1,r2,r3)) :
 Calls Try.prog 10 #[.agg #[.int .i64 a0_0,.int .i64 a0_1,.int .i64 a0_2,.int .i64 a0_3,.int .i64 a0_4,.int .i64 a0_5],.int .i64 a1] w fun e w' => ∃ v0_ : Value,e = .returned (.tuple #[v0_,.int .i64 r2,.int .i64 r3]) ∧ Kd.S (Kd.slice 3 (Kd.int .i64)) 37 w' w.heap.size (fun _ => True) v0_ r1 ∧ Below w.heap.size w w' := by
 have hu25 := Try.underlying25; have HB := Zh.mk (Below.refl w.heap.size w); have H : ((Zz.f k a0_0 a0_1 a0_2 a0_3 a0_4 a0_5).bind fun t169 => (if t169 = true then ((Zm.f a1 0 1000000000).bind fun t170 => (if t170 = true then ((Zu.f k a0_0 a0_1 a0_2 a0_3 a0_4 a0_5 a1).bind fun bt171 => (some (bt171.1,bt171.2,0))) else (some (([] : List (List Int)),0,7)))) else (some (([] : List (List Int)),0,1)))) = some (r1,r2,r3) := h; clear h; replace H := Option.bind_eq_some_iff.mp H; obtain ⟨t169,A30,H⟩ := H; replace H : (if t169 = true then ((Zm.f a1 0 1000000000).bind fun t170 => (if t170 = true then ((Zu.f k a0_0 a0_1 a0_2 a0_3 a0_4 a0_5 a1).bind fun bt171 => (some (bt171.1,bt171.2,0))) else (some (([] : List (List Int)),0,7)))) else (some (([] : List (List Int)),0,1))) = some (r1,r2,r3) := H; have A3 := Zh.mk A30; clear A30
 by_cases c4 : t169 = true
 · subst c4
   have H1 : ((Zm.f a1 0 1000000000).bind fun t170 => (if t170 = true then ((Zu.f k a0_0 a0_1 a0_2 a0_3 a0_4 a0_5 a1).bind fun bt171 => (some (bt171.1,bt171.2,0))) else (some (([] : List (List Int)),0,7)))) = some (r1,r2,r3) := by rw [if_pos rfl] at H; exact H
   clear H; have H := H1; clear H1; replace H := Option.bind_eq_some_iff.mp H; obtain ⟨t170,A50,H⟩ := H; replace H : (if t170 = true then ((Zu.f k a0_0 a0_1 a0_2 a0_3 a0_4 a0_5 a1).bind fun bt171 => (some (bt171.1,bt171.2,0))) else (some (([] : List (List Int)),0,7))) = some (r1,r2,r3) := H; have A5 := Zh.mk A50; clear A50
   by_cases c6 : t170 = true
   · subst c6
     have H1 : ((Zu.f k a0_0 a0_1 a0_2 a0_3 a0_4 a0_5 a1).bind fun bt171 => (some (bt171.1,bt171.2,0))) = some (r1,r2,r3) := by rw [if_pos rfl] at H; exact H
     clear H; have H := H1; clear H1; replace H := Option.bind_eq_some_iff.mp H; obtain ⟨⟨t171,t174⟩,A70,H⟩ := H; replace H : (some (t171,t174,0)) = some (r1,r2,r3) := H; have A7 := Zh.mk A70; clear A70; simp only [Option.some.injEq,Prod.mk.injEq] at H; obtain ⟨rfl,rfl,rfl⟩ := H
     go_enter Try.func10,Try.ntmps10
     go_wp2_with (first | ((with_reducible refine ZD (N := 2) rfl ?_); refine Z9 ?hg (N := 2) ?hd (cs := #[.int .i64 a0_0,.int .i64 a0_1,.int .i64 a0_2,.int .i64 a0_3,.int .i64 a0_4,.int .i64 a0_5]) (t := 25) ?hr ?_; (case hd => rfl); (case hg => rfl); (case hr => first | (go_simp; done) | (go_simp; rfl)); intro gb168 hg w8 hbox hb; have n0_ := Zh.mk (Zv (by repeat (first | (with_reducible first | exact HB.out | apply Zk | apply Zi | apply Zj) | exact HB.out)) hb); have n1_ := Zh.mk (hbox); have n2_ := Zh.mk ((by rw [hg]; exact (Zt (by repeat (first | (with_reducible first | exact HB.out | apply Zk | apply Zi | apply Zj) | exact HB.out))) : w.heap.size ≤ gb168)); have n3_ := Zh.mk ((by rw [hg]; exact (Zt (by repeat (first | (with_reducible first | exact HB.out | apply Zk | apply Zi | apply Zj) | exact HB.out))) : w.heap.size ≤ gb168)); clear HB; have HB := n0_; have BK168 := n1_; have GW168 := n2_; have GE168 := n3_; clear n0_ n1_ n2_ n3_; clear hb hbox hg; have hcz9_0 : w8.cell? ⟨gb168,0,none⟩ = some (.int .i64 a0_0) := (Za BK168.out 0).trans rfl; have hcz9_1 : w8.cell? ⟨gb168,1,none⟩ = some (.int .i64 a0_1) := (Za BK168.out 1).trans rfl; have hcz9_2 : w8.cell? ⟨gb168,2,none⟩ = some (.int .i64 a0_2) := (Za BK168.out 2).trans rfl; have hcz9_3 : w8.cell? ⟨gb168,3,none⟩ = some (.int .i64 a0_3) := (Za BK168.out 3).trans rfl; have hcz9_4 : w8.cell? ⟨gb168,4,none⟩ = some (.int .i64 a0_4) := (Za BK168.out 4).trans rfl; have hcz9_5 : w8.cell? ⟨gb168,5,none⟩ = some (.int .i64 a0_5) := (Za BK168.out 5).trans rfl; have hfz9_0 := Zb BK168.out 0; have hfz9_1 := Zb BK168.out 1; have hfz9_2 := Zb BK168.out 2; have hfz9_3 := Zb BK168.out 3; have hfz9_4 := Zb BK168.out 4; have hfz9_5 := Zb BK168.out 5) | ((with_reducible refine Z3 (f := 17) rfl ?_); refine ZE (some 11) rfl rfl Try.func17 (by kernel_rfl) rfl #[.agg #[.int .i64 a0_0,.int .i64 a0_1,.int .i64 a0_2,.int .i64 a0_3,.int .i64 a0_4,.int .i64 a0_5]] rfl (by (try simp only [List.map_toArray,List.map_cons,List.map_nil]); first | done | rfl | (simp only [List.length_drop,List.length_take]; rfl)) ?_; (with_reducible refine (Zz.calls k a0_0 a0_1 a0_2 a0_3 a0_4 a0_5 true _ A3.out).mono ?_); rintro e w10 ⟨rfl,hb⟩; refine ⟨_,rfl,?_⟩; have n0_ := Zh.mk (Zn (g := gb168) (o := .cells #[.int .i64 a0_0,.int .i64 a0_1,.int .i64 a0_2,.int .i64 a0_3,.int .i64 a0_4,.int .i64 a0_5] 25 (0,0)) (by (with_reducible repeat (first | refine Zc ?_ _ | refine Ze ?_ | refine Zd ?_ _)); exact BK168.out) hb); have n1_ := Zh.mk (Zv (by repeat (first | (with_reducible first | exact HB.out | apply Zk | apply Zi | apply Zj | refine Zf ?_ GE168.out) | exact HB.out)) hb); clear BK168; clear HB; have BK168 := n0_; have HB := n1_; clear n0_ n1_; (try clear hb); (try clear hb2); (try clear hk); (try clear hi)) | ((with_reducible refine Z3 (f := 26) rfl ?_); refine ZE (some 15) rfl rfl Try.func26 (by kernel_rfl) rfl #[.int .i64 a1,.int .i64 0,.int .i64 1000000000] rfl (by (try simp only [List.map_toArray,List.map_cons,List.map_nil]); first | done | rfl | (simp only [List.length_drop,List.length_take]; rfl)) ?_; (with_reducible refine (Zm.calls a1 0 1000000000 true _ A5.out).mono ?_); rintro e w' ⟨rfl,⟨nd,rfl⟩⟩; refine ⟨_,rfl,?_⟩; have hcz11_0 : w10.cell? ⟨gb168,0,none⟩ = some (.int .i64 a0_0) := (Za BK168.out 0).trans rfl; have hcz11_1 : w10.cell? ⟨gb168,1,none⟩ = some (.int .i64 a0_1) := (Za BK168.out 1).trans rfl; have hcz11_2 : w10.cell? ⟨gb168,2,none⟩ = some (.int .i64 a0_2) := (Za BK168.out 2).trans rfl; have hcz11_3 : w10.cell? ⟨gb168,3,none⟩ = some (.int .i64 a0_3) := (Za BK168.out 3).trans rfl; have hcz11_4 : w10.cell? ⟨gb168,4,none⟩ = some (.int .i64 a0_4) := (Za BK168.out 4).trans rfl; have hcz11_5 : w10.cell? ⟨gb168,5,none⟩ = some (.int .i64 a0_5) := (Za BK168.out 5).trans rfl; have hfz11_0 := Zb BK168.out 0; have hfz11_1 := Zb BK168.out 1; have hfz11_2 := Zb BK168.out 2; have hfz11_3 := Zb BK168.out 3; have hfz11_4 := Zb BK168.out 4; have hfz11_5 := Zb BK168.out 5) | ((with_reducible refine Z3 (f := 31) rfl ?_); refine ZE (some 20) rfl rfl Try.func31 (by kernel_rfl) rfl #[.agg #[.int .i64 a0_0,.int .i64 a0_1,.int .i64 a0_2,.int .i64 a0_3,.int .i64 a0_4,.int .i64 a0_5],.int .i64 a1] rfl (by (try simp only [List.map_toArray,List.map_cons,List.map_nil]); first | done | rfl | (simp only [List.length_drop,List.length_take]; rfl)) ?_; (with_reducible refine (Zu.calls k a0_0 a0_1 a0_2 a0_3 a0_4 a0_5 a1 t171 t174 _ A7.out).mono ?_); rintro e w12 ⟨v172,rfl,ho0,hb⟩; refine ⟨_,rfl,?_⟩; have n0_ := Zh.mk (Kd.Xw ho0 (Zt (by repeat (first | (with_reducible first | exact HB.out | apply Zk | apply Zi | apply Zj | refine Zf ?_ GE168.out) | exact HB.out)))); have n1_ := Zh.mk (Zn (g := gb168) (o := .cells #[.int .i64 a0_0,.int .i64 a0_1,.int .i64 a0_2,.int .i64 a0_3,.int .i64 a0_4,.int .i64 a0_5] 25 (0,0)) (by (with_reducible repeat (first | refine Zc ?_ _ | refine Ze ?_ | refine Zd ?_ _)); exact BK168.out) hb); have n2_ := Zh.mk (Zv (by repeat (first | (with_reducible first | exact HB.out | apply Zk | apply Zi | apply Zj | refine Zf ?_ GE168.out) | exact HB.out)) hb); clear BK168; clear HB; have HO173 := n0_; have BK168 := n1_; have HB := n2_; clear n0_ n1_ n2_; (try clear hb); (try clear hb2); (try clear hk); (try clear hi); (try clear ho0)))
     go_ret3
     exact ⟨_,by first | rfl | (simp [Zw,Zx] <;> rfl) | (simp [*,Zw,Zx] <;> rfl),by (with_reducible repeat (first | apply Kd.ZH | apply Kd.ZI | apply Kd.ZG)); exact HO173.out,by repeat (first | (with_reducible first | exact HB.out | apply Zk | apply Zi | apply Zj | refine Zf ?_ GE168.out) | exact HB.out)⟩
   · replace c6 := Bool.eq_false_iff.mpr c6
     subst c6
     have H1 : (some (([] : List (List Int)),0,7)) = some (r1,r2,r3) := by rw [if_neg (show ¬ (false = true) by decide)] at H; exact H
     clear H; have H := H1; clear H1; simp only [Option.some.injEq,Prod.mk.injEq] at H; obtain ⟨rfl,rfl,rfl⟩ := H
     go_enter Try.func10,Try.ntmps10
     go_wp2_with (first | ((with_reducible refine ZD (N := 2) rfl ?_); refine Z9 ?hg (N := 2) ?hd (cs := #[.int .i64 a0_0,.int .i64 a0_1,.int .i64 a0_2,.int .i64 a0_3,.int .i64 a0_4,.int .i64 a0_5]) (t := 25) ?hr ?_; (case hd => rfl); (case hg => rfl); (case hr => first | (go_simp; done) | (go_simp; rfl)); intro gb168 hg w13 hbox hb; have n0_ := Zh.mk (Zv (by repeat (first | (with_reducible first | exact HB.out | apply Zk | apply Zi | apply Zj) | exact HB.out)) hb); have n1_ := Zh.mk (hbox); have n2_ := Zh.mk ((by rw [hg]; exact (Zt (by repeat (first | (with_reducible first | exact HB.out | apply Zk | apply Zi | apply Zj) | exact HB.out))) : w.heap.size ≤ gb168)); have n3_ := Zh.mk ((by rw [hg]; exact (Zt (by repeat (first | (with_reducible first | exact HB.out | apply Zk | apply Zi | apply Zj) | exact HB.out))) : w.heap.size ≤ gb168)); clear HB; have HB := n0_; have BK168 := n1_; have GW168 := n2_; have GE168 := n3_; clear n0_ n1_ n2_ n3_; clear hb hbox hg; have hcz14_0 : w13.cell? ⟨gb168,0,none⟩ = some (.int .i64 a0_0) := (Za BK168.out 0).trans rfl; have hcz14_1 : w13.cell? ⟨gb168,1,none⟩ = some (.int .i64 a0_1) := (Za BK168.out 1).trans rfl; have hcz14_2 : w13.cell? ⟨gb168,2,none⟩ = some (.int .i64 a0_2) := (Za BK168.out 2).trans rfl; have hcz14_3 : w13.cell? ⟨gb168,3,none⟩ = some (.int .i64 a0_3) := (Za BK168.out 3).trans rfl; have hcz14_4 : w13.cell? ⟨gb168,4,none⟩ = some (.int .i64 a0_4) := (Za BK168.out 4).trans rfl; have hcz14_5 : w13.cell? ⟨gb168,5,none⟩ = some (.int .i64 a0_5) := (Za BK168.out 5).trans rfl; have hfz14_0 := Zb BK168.out 0; have hfz14_1 := Zb BK168.out 1; have hfz14_2 := Zb BK168.out 2; have hfz14_3 := Zb BK168.out 3; have hfz14_4 := Zb BK168.out 4; have hfz14_5 := Zb BK168.out 5) | ((with_reducible refine Z3 (f := 17) rfl ?_); refine ZE (some 11) rfl rfl Try.func17 (by kernel_rfl) rfl #[.agg #[.int .i64 a0_0,.int .i64 a0_1,.int .i64 a0_2,.int .i64 a0_3,.int .i64 a0_4,.int .i64 a0_5]] rfl (by (try simp only [List.map_toArray,List.map_cons,List.map_nil]); first | done | rfl | (simp only [List.length_drop,List.length_take]; rfl)) ?_; (with_reducible refine (Zz.calls k a0_0 a0_1 a0_2 a0_3 a0_4 a0_5 true _ A3.out).mono ?_); rintro e w15 ⟨rfl,hb⟩; refine ⟨_,rfl,?_⟩; have n0_ := Zh.mk (Zn (g := gb168) (o := .cells #[.int .i64 a0_0,.int .i64 a0_1,.int .i64 a0_2,.int .i64 a0_3,.int .i64 a0_4,.int .i64 a0_5] 25 (0,0)) (by (with_reducible repeat (first | refine Zc ?_ _ | refine Ze ?_ | refine Zd ?_ _)); exact BK168.out) hb); have n1_ := Zh.mk (Zv (by repeat (first | (with_reducible first | exact HB.out | apply Zk | apply Zi | apply Zj | refine Zf ?_ GE168.out) | exact HB.out)) hb); clear BK168; clear HB; have BK168 := n0_; have HB := n1_; clear n0_ n1_; (try clear hb); (try clear hb2); (try clear hk); (try clear hi)) | ((with_reducible refine Z3 (f := 26) rfl ?_); refine ZE (some 15) rfl rfl Try.func26 (by kernel_rfl) rfl #[.int .i64 a1,.int .i64 0,.int .i64 1000000000] rfl (by (try simp only [List.map_toArray,List.map_cons,List.map_nil]); first | done | rfl | (simp only [List.length_drop,List.length_take]; rfl)) ?_; (with_reducible refine (Zm.calls a1 0 1000000000 false _ A5.out).mono ?_); rintro e w' ⟨rfl,⟨nd,rfl⟩⟩; refine ⟨_,rfl,?_⟩))
     go_ret3
     exact ⟨_,by first | rfl | (simp [Zw,Zx] <;> rfl) | (simp [*,Zw,Zx] <;> rfl),by first | exact Kd.S_nil _ _ _ _ _ | exact Kd.N_nil _ _ _ _ _ | exact Kd.V_nil _ _ _ _ _ | exact Kd.Q_nil _ _ _ _ _ | exact Kd.R_nil _ _ _ _ _,by repeat (first | (with_reducible first | exact HB.out | apply Zk | apply Zi | apply Zj | refine Zf ?_ GE168.out) | exact HB.out)⟩
 · replace c4 := Bool.eq_false_iff.mpr c4
   subst c4
   have H1 : (some (([] : List (List Int)),0,1)) = some (r1,r2,r3) := by rw [if_neg (show ¬ (false = true) by decide)] at H; exact H
   clear H; have H := H1; clear H1; simp only [Option.some.injEq,Prod.mk.injEq] at H; obtain ⟨rfl,rfl,rfl⟩ := H
   go_enter Try.func10,Try.ntmps10
   go_wp2_with (first | ((with_reducible refine ZD (N := 2) rfl ?_); refine Z9 ?hg (N := 2) ?hd (cs := #[.int .i64 a0_0,.int .i64 a0_1,.int .i64 a0_2,.int .i64 a0_3,.int .i64 a0_4,.int .i64 a0_5]) (t := 25) ?hr ?_; (case hd => rfl); (case hg => rfl); (case hr => first | (go_simp; done) | (go_simp; rfl)); intro gb168 hg w16 hbox hb; have n0_ := Zh.mk (Zv (by repeat (first | (with_reducible first | exact HB.out | apply Zk | apply Zi | apply Zj) | exact HB.out)) hb); have n1_ := Zh.mk (hbox); have n2_ := Zh.mk ((by rw [hg]; exact (Zt (by repeat (first | (with_reducible first | exact HB.out | apply Zk | apply Zi | apply Zj) | exact HB.out))) : w.heap.size ≤ gb168)); have n3_ := Zh.mk ((by rw [hg]; exact (Zt (by repeat (first | (with_reducible first | exact HB.out | apply Zk | apply Zi | apply Zj) | exact HB.out))) : w.heap.size ≤ gb168)); clear HB; have HB := n0_; have BK168 := n1_; have GW168 := n2_; have GE168 := n3_; clear n0_ n1_ n2_ n3_; clear hb hbox hg; have hcz17_0 : w16.cell? ⟨gb168,0,none⟩ = some (.int .i64 a0_0) := (Za BK168.out 0).trans rfl; have hcz17_1 : w16.cell? ⟨gb168,1,none⟩ = some (.int .i64 a0_1) := (Za BK168.out 1).trans rfl; have hcz17_2 : w16.cell? ⟨gb168,2,none⟩ = some (.int .i64 a0_2) := (Za BK168.out 2).trans rfl; have hcz17_3 : w16.cell? ⟨gb168,3,none⟩ = some (.int .i64 a0_3) := (Za BK168.out 3).trans rfl; have hcz17_4 : w16.cell? ⟨gb168,4,none⟩ = some (.int .i64 a0_4) := (Za BK168.out 4).trans rfl; have hcz17_5 : w16.cell? ⟨gb168,5,none⟩ = some (.int .i64 a0_5) := (Za BK168.out 5).trans rfl; have hfz17_0 := Zb BK168.out 0; have hfz17_1 := Zb BK168.out 1; have hfz17_2 := Zb BK168.out 2; have hfz17_3 := Zb BK168.out 3; have hfz17_4 := Zb BK168.out 4; have hfz17_5 := Zb BK168.out 5) | ((with_reducible refine Z3 (f := 17) rfl ?_); refine ZE (some 11) rfl rfl Try.func17 (by kernel_rfl) rfl #[.agg #[.int .i64 a0_0,.int .i64 a0_1,.int .i64 a0_2,.int .i64 a0_3,.int .i64 a0_4,.int .i64 a0_5]] rfl (by (try simp only [List.map_toArray,List.map_cons,List.map_nil]); first | done | rfl | (simp only [List.length_drop,List.length_take]; rfl)) ?_; (with_reducible refine (Zz.calls k a0_0 a0_1 a0_2 a0_3 a0_4 a0_5 false _ A3.out).mono ?_); rintro e w18 ⟨rfl,hb⟩; refine ⟨_,rfl,?_⟩; have n0_ := Zh.mk (Zn (g := gb168) (o := .cells #[.int .i64 a0_0,.int .i64 a0_1,.int .i64 a0_2,.int .i64 a0_3,.int .i64 a0_4,.int .i64 a0_5] 25 (0,0)) (by (with_reducible repeat (first | refine Zc ?_ _ | refine Ze ?_ | refine Zd ?_ _)); exact BK168.out) hb); have n1_ := Zh.mk (Zv (by repeat (first | (with_reducible first | exact HB.out | apply Zk | apply Zi | apply Zj | refine Zf ?_ GE168.out) | exact HB.out)) hb); clear BK168; clear HB; have BK168 := n0_; have HB := n1_; clear n0_ n1_; (try clear hb); (try clear hb2); (try clear hk); (try clear hi)))
   go_ret3
   exact ⟨_,by first | rfl | (simp [Zw,Zx] <;> rfl) | (simp [*,Zw,Zx] <;> rfl),by first | exact Kd.S_nil _ _ _ _ _ | exact Kd.N_nil _ _ _ _ _ | exact Kd.V_nil _ _ _ _ _ | exact Kd.Q_nil _ _ _ _ _ | exact Kd.R_nil _ _ _ _ _,by repeat (first | (with_reducible first | exact HB.out | apply Zk | apply Zi | apply Zj | refine Zf ?_ GE168.out) | exact HB.out)⟩
end Go.Proofs.Ytcdiecgenpigbaa.PA

namespace Go.Proofs.Ytcdiecgenpigbaa.PA
open Go.RowKit Go.Proofs.YtcdiecgenpigbaaW.PrintWords Go.Proofs.YtcdiecgenpigbaaW.PrintLast Go.Proofs.YtcdiecgenpigbaaW.PrintMore
attribute [local go_sem] ZQ ZS ZZ ZY ZL ZM ZT ZU
set_option linter.unusedVariables false
set_option linter.unusedSimpArgs false
def Z1.l0 : Nat → List Int → List Int → Int → Option (Bool)
 | 0,_,_,_ => none
 | k + 1,x0,x1,x5 => if x5 < (x0.length : Int) then (if 0 ≤ x5 then (if x5 < (x1.length : Int) then (if (rd x0 x5) = (rd x1 x5) then (Z1.l0 k x0 x1 (wrap64 (x5 + 1))) else (some false)) else (none)) else (none)) else (some true)
def Z1.f (k : Nat) (l0 : List Int) (l1 : List Int) : Option (Bool) := if (l0.length : Int) = (l1.length : Int) then (Z1.l0 k l0 l1 0) else (some false)
theorem Z1.Xf : ∀ k,(∀ y0 y1 y2,LeO (Z1.l0 k y0 y1 y2) (Z1.l0 (k + 1) y0 y1 y2))
 | 0 => fun _ _ _ r h => by simp [Z1.l0] at h
 | k + 1 => by
  have ih0 := Z1.Xf k
  · intro y0 y1 y2
    unfold Z1.l0
    repeat' first
    | (with_reducible exact ih0 _ _ _)
    | (with_reducible exact LeO.refl _)
    | (with_reducible exact LeO.none _)
    | (with_reducible refine LeO.ite ?_ ?_)
    | (with_reducible refine LeO.bind ?_ (fun _ => ?_))
    | exact ih0 _ _ _
    | exact LeO.none _
    | refine LeO.ite ?_ ?_
    | refine LeO.bind ?_ (fun _ => ?_)
theorem Z1.mono : ∀ a0 a1 k,LeO (Z1.f k a0 a1) (Z1.f (k + 1) a0 a1) := by
 intro a0 a1 k; have ih0 := Z1.Xf k; unfold Z1.f
 repeat' first
  | (with_reducible exact ih0 _ _ _)
  | (with_reducible exact LeO.refl _)
  | (with_reducible exact LeO.none _)
  | (with_reducible refine LeO.ite ?_ ?_)
  | (with_reducible refine LeO.bind ?_ (fun _ => ?_))
  | exact ih0 _ _ _
  | exact LeO.none _
  | refine LeO.ite ?_ ?_
  | refine LeO.bind ?_ (fun _ => ?_)
set_option maxHeartbeats 8000000 in
set_option maxRecDepth 100000 in
theorem Z1.calls (k : Nat) (A0 : Option Addr) (c0 : Nat) (l0 : List Int) (A1 : Option Addr) (c1 : Nat) (l1 : List Int) (r : Bool) (w : World) (hr0 : Kd.C (Kd.int .i64) w A0 l0.length l0) (hc0 : l0.length ≤ c0) (hr1 : Kd.C (Kd.int .i64) w A1 l1.length l1) (hc1 : l1.length ≤ c1) (h : Z1.f k l0 l1 = some r) :
 Calls Try.prog 38 #[.slice A0 l0.length c0,.slice A1 l1.length c1] w fun e w' => e = .returned (.bool r) ∧ Drawn0 w w' := by
 have HR0 := Zh.mk hr0; have HC0 := Zh.mk hc0; clear hr0 hc0; have HR1 := Zh.mk hr1; have HC1 := Zh.mk hc1; clear hr1 hc1; have H : (if (l0.length : Int) = (l1.length : Int) then (Z1.l0 k l0 l1 0) else (some false)) = some r := h; clear h
 by_cases c3 : (l0.length : Int) = (l1.length : Int)
 · rw [if_pos c3] at H
   have c3b0 : ((l0.length : Int) == (l1.length : Int)) = true := beq_iff_eq.mpr c3; have c3b1 : ((l0.length : Int) != (l1.length : Int)) = false := bne_eq_false_iff_eq.mpr c3
   have c3b2 : (l0.length == l1.length) = true := by first | simpa using c3 | (simp at c3 ⊢; omega)
   clear c3; have H' := Zh.mk H; clear H
   go_enter Try.func38,Try.ntmps38
   go_wp2
   repeat (go_quiet (fail); try go_wp2)
   go_loopg [5] k (fun kq v5 w' => ∃ (x5_1 : Int),v5 = .int .i64 x5_1 ∧ Zh (Z1.l0 kq l0 l1 x5_1 = some r) ∧ Zh (kq ≤ k) ∧ Drawn0 w w')
   case atStart => exact ⟨(0),(by first | rfl | (simp; done) | (simp [*]; done)),H',⟨Nat.le_refl _⟩,by repeat (first | exact Drawn0.refl _ | apply Drawn0.step)⟩
   case round =>
    clear H'
    (try clear c1); (try clear p2); (try clear c3); (try clear c3b0); (try clear c3b1); (try clear c3b2)
    obtain ⟨x5_1,rfl,HA,HK1,⟨m1,rfl⟩⟩ := hrel
    cases gk with
    | zero => exact absurd HA.out (by simp [Z1.l0])
    | succ k1 =>
     have H := HA.out; clear HA; simp only [Z1.l0] at H
     by_cases c4 : x5_1 < (l0.length : Int)
     · rw [if_pos c4] at H
       have c4b0 : decide (x5_1 < (l0.length : Int)) = true := decide_eq_true c4; clear c4
       by_cases c5 : 0 ≤ x5_1
       · rw [if_pos c5] at H
         have c5b0 : decide (0 ≤ x5_1) = true := decide_eq_true c5; clear c5
         by_cases c6 : x5_1 < (l1.length : Int)
         · rw [if_pos c6] at H
           have c6b0 : decide (x5_1 < (l1.length : Int)) = true := decide_eq_true c6; clear c6
           by_cases c7 : (rd l0 x5_1) = (rd l1 x5_1)
           · rw [if_pos c7] at H
             have c7b0 : ((rd l0 x5_1) == (rd l1 x5_1)) = true := beq_iff_eq.mpr c7; have c7b1 : ((rd l0 x5_1) != (rd l1 x5_1)) = false := bne_eq_false_iff_eq.mpr c7; clear c7; have H' := Zh.mk H; clear H; have p175 : 0 ≤ (x5_1 : Int) := of_decide_eq_true (by first | (with_reducible assumption) | assumption); have q175 : x5_1 < (l0.length : Int) := of_decide_eq_true (by first | (with_reducible assumption) | assumption); obtain ⟨ad175,e175,hx175_0⟩ := Kd.X2 HR0.out x5_1 p175 q175
             cases e175
             replace p175 := eq_true p175; replace q175 := eq_true q175; have p176 : 0 ≤ (x5_1 : Int) := of_decide_eq_true (by first | (with_reducible assumption) | assumption); have q176 : x5_1 < (l1.length : Int) := of_decide_eq_true (by first | (with_reducible assumption) | assumption); obtain ⟨ad176,e176,hx176_0⟩ := Kd.X2 HR1.out x5_1 p176 q176
             cases e176
             replace p176 := eq_true p176; replace q176 := eq_true q176
             go_wp2
             repeat (go_quiet (fail); try go_wp2)
             go_roundg k1
             case measure => have := HK1.out; omega
             case rel => exact ⟨(wrap64 (x5_1 + 1)),(by first | rfl | (simp; done) | (simp [*]; done)),H',⟨by have := HK1.out; omega⟩,by repeat (first | exact Drawn0.refl _ | apply Drawn0.step)⟩
           · rw [if_neg c7] at H
             have c7b0 : ((rd l0 x5_1) == (rd l1 x5_1)) = false := beq_eq_false_iff_ne.mpr c7; have c7b1 : ((rd l0 x5_1) != (rd l1 x5_1)) = true := bne_iff_ne.mpr c7; obtain rfl := Option.some.inj H; have p175 : 0 ≤ (x5_1 : Int) := of_decide_eq_true (by first | (with_reducible assumption) | assumption); have q175 : x5_1 < (l0.length : Int) := of_decide_eq_true (by first | (with_reducible assumption) | assumption); obtain ⟨ad175,e175,hx175_0⟩ := Kd.X2 HR0.out x5_1 p175 q175
             cases e175
             replace p175 := eq_true p175; replace q175 := eq_true q175; have p176 : 0 ≤ (x5_1 : Int) := of_decide_eq_true (by first | (with_reducible assumption) | assumption); have q176 : x5_1 < (l1.length : Int) := of_decide_eq_true (by first | (with_reducible assumption) | assumption); obtain ⟨ad176,e176,hx176_0⟩ := Kd.X2 HR1.out x5_1 p176 q176
             cases e176
             replace p176 := eq_true p176; replace q176 := eq_true q176
             go_wp2
             repeat (go_quiet (fail); try go_wp2)
             go_ret; exact ⟨by first | rfl | (simp; done) | (simp [*]; done),by repeat (first | exact Drawn0.refl _ | apply Drawn0.step)⟩
         · rw [if_neg c6] at H
           exact absurd H (by simp)
       · rw [if_neg c5] at H
         exact absurd H (by simp)
     · rw [if_neg c4] at H
       have c4b0 : decide (x5_1 < (l0.length : Int)) = false := decide_eq_false c4; clear c4; obtain rfl := Option.some.inj H
       go_wp2
       repeat (go_quiet (fail); try go_wp2)
       go_ret; exact ⟨by first | rfl | (simp; done) | (simp [*]; done),by repeat (first | exact Drawn0.refl _ | apply Drawn0.step)⟩
 · rw [if_neg c3] at H
   have c3b0 : ((l0.length : Int) == (l1.length : Int)) = false := beq_eq_false_iff_ne.mpr c3; have c3b1 : ((l0.length : Int) != (l1.length : Int)) = true := bne_iff_ne.mpr c3
   have c3b2 : (l0.length == l1.length) = false := by first | simpa using c3 | (simp at c3 ⊢; omega)
   obtain rfl := Option.some.inj H
   go_enter Try.func38,Try.ntmps38
   go_wp2
   repeat (go_quiet (fail); try go_wp2)
   go_ret; exact ⟨by first | rfl | (simp; done) | (simp [*]; done),by repeat (first | exact Drawn0.refl _ | apply Drawn0.step)⟩
end Go.Proofs.Ytcdiecgenpigbaa.PA

namespace Go.Proofs.Ytcdiecgenpigbaa.PA
open Go.RowKit Go.Proofs.YtcdiecgenpigbaaW.PrintWords Go.Proofs.YtcdiecgenpigbaaW.PrintLast Go.Proofs.YtcdiecgenpigbaaW.PrintMore
attribute [local go_sem] ZQ ZS ZZ ZY ZL ZM ZT ZU
set_option linter.unusedVariables false
set_option linter.unusedSimpArgs false
def Zr.l0 : Nat → List (List Int) → List (List Int) → Int → Option (Bool)
 | 0,_,_,_ => none
 | k + 1,x0,x1,x5 => if x5 < (x0.length : Int) then (if 0 ≤ x5 then (if x5 < (x1.length : Int) then ((Z1.f k (rd_L4 x0 x5) (rd_L4 x1 x5)).bind fun t179 => (if t179 = true then (Zr.l0 k x0 x1 (wrap64 (x5 + 1))) else (some false))) else (none)) else (none)) else (some true)
def Zr.f (k : Nat) (l0 : List (List Int)) (l1 : List (List Int)) : Option (Bool) := if (l0.length : Int) = (l1.length : Int) then (Zr.l0 k l0 l1 0) else (some false)
theorem Zr.Xf : ∀ k,(∀ y0 y1 y2,LeO (Zr.l0 k y0 y1 y2) (Zr.l0 (k + 1) y0 y1 y2))
 | 0 => fun _ _ _ r h => by simp [Zr.l0] at h
 | k + 1 => by
  have ih0 := Zr.Xf k
  · intro y0 y1 y2
    unfold Zr.l0
    repeat' first
    | (with_reducible exact ih0 _ _ _)
    | (with_reducible exact Z1.mono _ _ _)
    | (with_reducible exact LeO.refl _)
    | (with_reducible exact LeO.none _)
    | (with_reducible refine LeO.ite ?_ ?_)
    | (with_reducible refine LeO.bind ?_ (fun _ => ?_))
    | exact ih0 _ _ _
    | exact Z1.mono _ _ _
    | exact LeO.none _
    | refine LeO.ite ?_ ?_
    | refine LeO.bind ?_ (fun _ => ?_)
theorem Zr.mono : ∀ a0 a1 k,LeO (Zr.f k a0 a1) (Zr.f (k + 1) a0 a1) := by
 intro a0 a1 k; have ih0 := Zr.Xf k; unfold Zr.f
 repeat' first
  | (with_reducible exact ih0 _ _ _)
  | (with_reducible exact Z1.mono _ _ _)
  | (with_reducible exact LeO.refl _)
  | (with_reducible exact LeO.none _)
  | (with_reducible refine LeO.ite ?_ ?_)
  | (with_reducible refine LeO.bind ?_ (fun _ => ?_))
  | exact ih0 _ _ _
  | exact Z1.mono _ _ _
  | exact LeO.none _
  | refine LeO.ite ?_ ?_
  | refine LeO.bind ?_ (fun _ => ?_)
set_option maxHeartbeats 8000000 in
set_option maxRecDepth 100000 in
theorem Zr.calls (k : Nat) (A0 : Option Addr) (c0 : Nat) (l0 : List (List Int)) (A1 : Option Addr) (c1 : Nat) (l1 : List (List Int)) (r : Bool) (w : World) (hr0 : Kd.C (Kd.slice 3 (Kd.int .i64)) w A0 l0.length l0) (hc0 : l0.length ≤ c0) (hr1 : Kd.C (Kd.slice 3 (Kd.int .i64)) w A1 l1.length l1) (hc1 : l1.length ≤ c1) (h : Zr.f k l0 l1 = some r) :
 Calls Try.prog 13 #[.slice A0 l0.length c0,.slice A1 l1.length c1] w fun e w' => e = .returned (.bool r) ∧ Drawn0 w w' := by
 have HR0 := Zh.mk hr0; have HC0 := Zh.mk hc0; clear hr0 hc0; have HR1 := Zh.mk hr1; have HC1 := Zh.mk hc1; clear hr1 hc1; have H : (if (l0.length : Int) = (l1.length : Int) then (Zr.l0 k l0 l1 0) else (some false)) = some r := h; clear h
 by_cases c3 : (l0.length : Int) = (l1.length : Int)
 · rw [if_pos c3] at H
   have c3b0 : ((l0.length : Int) == (l1.length : Int)) = true := beq_iff_eq.mpr c3; have c3b1 : ((l0.length : Int) != (l1.length : Int)) = false := bne_eq_false_iff_eq.mpr c3
   have c3b2 : (l0.length == l1.length) = true := by first | simpa using c3 | (simp at c3 ⊢; omega)
   clear c3; have H' := Zh.mk H; clear H
   go_enter Try.func13,Try.ntmps13
   go_wp2
   repeat (go_quiet (fail); try go_wp2)
   go_loopg [5] k (fun kq v5 w' => ∃ (x5_1 : Int),v5 = .int .i64 x5_1 ∧ Zh (Zr.l0 kq l0 l1 x5_1 = some r) ∧ Zh (kq ≤ k) ∧ Drawn0 w w')
   case atStart => exact ⟨(0),(by first | rfl | (simp; done) | (simp [*]; done)),H',⟨Nat.le_refl _⟩,by repeat (first | exact Drawn0.refl _ | apply Drawn0.step)⟩
   case round =>
    clear H'
    (try clear c1); (try clear p2); (try clear c3); (try clear c3b0); (try clear c3b1); (try clear c3b2)
    obtain ⟨x5_1,rfl,HA,HK1,⟨m1,rfl⟩⟩ := hrel
    cases gk with
    | zero => exact absurd HA.out (by simp [Zr.l0])
    | succ k1 =>
     have H := HA.out; clear HA; simp only [Zr.l0] at H
     by_cases c4 : x5_1 < (l0.length : Int)
     · rw [if_pos c4] at H
       have c4b0 : decide (x5_1 < (l0.length : Int)) = true := decide_eq_true c4; clear c4
       by_cases c5 : 0 ≤ x5_1
       · rw [if_pos c5] at H
         have c5b0 : decide (0 ≤ x5_1) = true := decide_eq_true c5; clear c5
         by_cases c6 : x5_1 < (l1.length : Int)
         · rw [if_pos c6] at H
           have c6b0 : decide (x5_1 < (l1.length : Int)) = true := decide_eq_true c6; clear c6; replace H := Option.bind_eq_some_iff.mp H; obtain ⟨t179,A70,H⟩ := H; replace H : (if t179 = true then (Zr.l0 k1 l0 l1 (wrap64 (x5_1 + 1))) else (some false)) = some r := H; have A7 := Zh.mk A70; clear A70
           by_cases c8 : t179 = true
           · subst c8
             have H1 : (Zr.l0 k1 l0 l1 (wrap64 (x5_1 + 1))) = some r := by rw [if_pos rfl] at H; exact H
             clear H; have H := H1; clear H1; have H' := Zh.mk H; clear H; have p177 : 0 ≤ (x5_1 : Int) := of_decide_eq_true (by first | (with_reducible assumption) | assumption); have q177 : x5_1 < (l0.length : Int) := of_decide_eq_true (by first | (with_reducible assumption) | assumption); obtain ⟨ad177,A177_0,c177_0,e177,hx177_0,hl177_0,hi177_0⟩ := at_L4 HR0.out x5_1 p177 q177
             cases e177
             have HR177_0 := Zh.mk hi177_0; have HC177_0 := Zh.mk hl177_0; clear hi177_0 hl177_0; replace p177 := eq_true p177; replace q177 := eq_true q177; have p178 : 0 ≤ (x5_1 : Int) := of_decide_eq_true (by first | (with_reducible assumption) | assumption); have q178 : x5_1 < (l1.length : Int) := of_decide_eq_true (by first | (with_reducible assumption) | assumption); obtain ⟨ad178,A178_0,c178_0,e178,hx178_0,hl178_0,hi178_0⟩ := at_L4 HR1.out x5_1 p178 q178
             cases e178
             have HR178_0 := Zh.mk hi178_0; have HC178_0 := Zh.mk hl178_0; clear hi178_0 hl178_0; replace p178 := eq_true p178; replace q178 := eq_true q178
             go_wp2_with (first | (go_at_call 38; (with_reducible refine (Z1.calls k1 _ _ (rd_L4 l0 x5_1) _ _ (rd_L4 l1 x5_1) true _ ?side1 ?side2 ?side3 ?side4 A7.out).mono ?_); (case side1 => repeat (first | exact HR177_0.out | (with_reducible refine Kd.ZV ?_ _) | (with_reducible refine Kd.ZW ?_ _) | (with_reducible refine Kd.ZX ?_))); (case side2 => exact HC177_0.out); (case side3 => repeat (first | exact HR178_0.out | (with_reducible refine Kd.ZV ?_ _) | (with_reducible refine Kd.ZW ?_ _) | (with_reducible refine Kd.ZX ?_))); (case side4 => exact HC178_0.out); rintro e w' ⟨rfl,⟨nd,rfl⟩⟩; (try first | exact ⟨rfl,_,World.drewN_drewN _ _ _⟩ | exact ⟨rfl,_,Eq.trans (World.drewN_drewN _ _ _) (congrArg (World.drewN _) (Nat.add_assoc _ _ _))⟩)))
             repeat (go_quiet (first | (go_at_call 38; (with_reducible refine (Z1.calls k1 _ _ (rd_L4 l0 x5_1) _ _ (rd_L4 l1 x5_1) true _ ?side1 ?side2 ?side3 ?side4 A7.out).mono ?_); (case side1 => repeat (first | exact HR177_0.out | (with_reducible refine Kd.ZV ?_ _) | (with_reducible refine Kd.ZW ?_ _) | (with_reducible refine Kd.ZX ?_))); (case side2 => exact HC177_0.out); (case side3 => repeat (first | exact HR178_0.out | (with_reducible refine Kd.ZV ?_ _) | (with_reducible refine Kd.ZW ?_ _) | (with_reducible refine Kd.ZX ?_))); (case side4 => exact HC178_0.out); rintro e w' ⟨rfl,⟨nd,rfl⟩⟩; (try first | exact ⟨rfl,_,World.drewN_drewN _ _ _⟩ | exact ⟨rfl,_,Eq.trans (World.drewN_drewN _ _ _) (congrArg (World.drewN _) (Nat.add_assoc _ _ _))⟩))); try go_wp2_with (first | (go_at_call 38; (with_reducible refine (Z1.calls k1 _ _ (rd_L4 l0 x5_1) _ _ (rd_L4 l1 x5_1) true _ ?side1 ?side2 ?side3 ?side4 A7.out).mono ?_); (case side1 => repeat (first | exact HR177_0.out | (with_reducible refine Kd.ZV ?_ _) | (with_reducible refine Kd.ZW ?_ _) | (with_reducible refine Kd.ZX ?_))); (case side2 => exact HC177_0.out); (case side3 => repeat (first | exact HR178_0.out | (with_reducible refine Kd.ZV ?_ _) | (with_reducible refine Kd.ZW ?_ _) | (with_reducible refine Kd.ZX ?_))); (case side4 => exact HC178_0.out); rintro e w' ⟨rfl,⟨nd,rfl⟩⟩; (try first | exact ⟨rfl,_,World.drewN_drewN _ _ _⟩ | exact ⟨rfl,_,Eq.trans (World.drewN_drewN _ _ _) (congrArg (World.drewN _) (Nat.add_assoc _ _ _))⟩))))
             go_roundg k1
             case measure => have := HK1.out; omega
             case rel => exact ⟨(wrap64 (x5_1 + 1)),(by first | rfl | (simp; done) | (simp [*]; done)),H',⟨by have := HK1.out; omega⟩,by repeat (first | exact Drawn0.refl _ | apply Drawn0.step)⟩
           · replace c8 := Bool.eq_false_iff.mpr c8
             subst c8
             have H1 : (some false) = some r := by rw [if_neg (show ¬ (false = true) by decide)] at H; exact H
             clear H; have H := H1; clear H1; obtain rfl := Option.some.inj H; have p177 : 0 ≤ (x5_1 : Int) := of_decide_eq_true (by first | (with_reducible assumption) | assumption); have q177 : x5_1 < (l0.length : Int) := of_decide_eq_true (by first | (with_reducible assumption) | assumption); obtain ⟨ad177,A177_0,c177_0,e177,hx177_0,hl177_0,hi177_0⟩ := at_L4 HR0.out x5_1 p177 q177
             cases e177
             have HR177_0 := Zh.mk hi177_0; have HC177_0 := Zh.mk hl177_0; clear hi177_0 hl177_0; replace p177 := eq_true p177; replace q177 := eq_true q177; have p178 : 0 ≤ (x5_1 : Int) := of_decide_eq_true (by first | (with_reducible assumption) | assumption); have q178 : x5_1 < (l1.length : Int) := of_decide_eq_true (by first | (with_reducible assumption) | assumption); obtain ⟨ad178,A178_0,c178_0,e178,hx178_0,hl178_0,hi178_0⟩ := at_L4 HR1.out x5_1 p178 q178
             cases e178
             have HR178_0 := Zh.mk hi178_0; have HC178_0 := Zh.mk hl178_0; clear hi178_0 hl178_0; replace p178 := eq_true p178; replace q178 := eq_true q178
             go_wp2_with (first | (go_at_call 38; (with_reducible refine (Z1.calls k1 _ _ (rd_L4 l0 x5_1) _ _ (rd_L4 l1 x5_1) false _ ?side1 ?side2 ?side3 ?side4 A7.out).mono ?_); (case side1 => repeat (first | exact HR177_0.out | (with_reducible refine Kd.ZV ?_ _) | (with_reducible refine Kd.ZW ?_ _) | (with_reducible refine Kd.ZX ?_))); (case side2 => exact HC177_0.out); (case side3 => repeat (first | exact HR178_0.out | (with_reducible refine Kd.ZV ?_ _) | (with_reducible refine Kd.ZW ?_ _) | (with_reducible refine Kd.ZX ?_))); (case side4 => exact HC178_0.out); rintro e w' ⟨rfl,⟨nd,rfl⟩⟩; (try first | exact ⟨rfl,_,World.drewN_drewN _ _ _⟩ | exact ⟨rfl,_,Eq.trans (World.drewN_drewN _ _ _) (congrArg (World.drewN _) (Nat.add_assoc _ _ _))⟩)))
             repeat (go_quiet (first | (go_at_call 38; (with_reducible refine (Z1.calls k1 _ _ (rd_L4 l0 x5_1) _ _ (rd_L4 l1 x5_1) false _ ?side1 ?side2 ?side3 ?side4 A7.out).mono ?_); (case side1 => repeat (first | exact HR177_0.out | (with_reducible refine Kd.ZV ?_ _) | (with_reducible refine Kd.ZW ?_ _) | (with_reducible refine Kd.ZX ?_))); (case side2 => exact HC177_0.out); (case side3 => repeat (first | exact HR178_0.out | (with_reducible refine Kd.ZV ?_ _) | (with_reducible refine Kd.ZW ?_ _) | (with_reducible refine Kd.ZX ?_))); (case side4 => exact HC178_0.out); rintro e w' ⟨rfl,⟨nd,rfl⟩⟩; (try first | exact ⟨rfl,_,World.drewN_drewN _ _ _⟩ | exact ⟨rfl,_,Eq.trans (World.drewN_drewN _ _ _) (congrArg (World.drewN _) (Nat.add_assoc _ _ _))⟩))); try go_wp2_with (first | (go_at_call 38; (with_reducible refine (Z1.calls k1 _ _ (rd_L4 l0 x5_1) _ _ (rd_L4 l1 x5_1) false _ ?side1 ?side2 ?side3 ?side4 A7.out).mono ?_); (case side1 => repeat (first | exact HR177_0.out | (with_reducible refine Kd.ZV ?_ _) | (with_reducible refine Kd.ZW ?_ _) | (with_reducible refine Kd.ZX ?_))); (case side2 => exact HC177_0.out); (case side3 => repeat (first | exact HR178_0.out | (with_reducible refine Kd.ZV ?_ _) | (with_reducible refine Kd.ZW ?_ _) | (with_reducible refine Kd.ZX ?_))); (case side4 => exact HC178_0.out); rintro e w' ⟨rfl,⟨nd,rfl⟩⟩; (try first | exact ⟨rfl,_,World.drewN_drewN _ _ _⟩ | exact ⟨rfl,_,Eq.trans (World.drewN_drewN _ _ _) (congrArg (World.drewN _) (Nat.add_assoc _ _ _))⟩))))
             go_ret; exact ⟨by first | rfl | (simp; done) | (simp [*]; done),by repeat (first | exact Drawn0.refl _ | apply Drawn0.step)⟩
         · rw [if_neg c6] at H
           exact absurd H (by simp)
       · rw [if_neg c5] at H
         exact absurd H (by simp)
     · rw [if_neg c4] at H
       have c4b0 : decide (x5_1 < (l0.length : Int)) = false := decide_eq_false c4; clear c4; obtain rfl := Option.some.inj H
       go_wp2
       repeat (go_quiet (fail); try go_wp2)
       go_ret; exact ⟨by first | rfl | (simp; done) | (simp [*]; done),by repeat (first | exact Drawn0.refl _ | apply Drawn0.step)⟩
 · rw [if_neg c3] at H
   have c3b0 : ((l0.length : Int) == (l1.length : Int)) = false := beq_eq_false_iff_ne.mpr c3; have c3b1 : ((l0.length : Int) != (l1.length : Int)) = true := bne_iff_ne.mpr c3
   have c3b2 : (l0.length == l1.length) = false := by first | simpa using c3 | (simp at c3 ⊢; omega)
   obtain rfl := Option.some.inj H
   go_enter Try.func13,Try.ntmps13
   go_wp2
   repeat (go_quiet (fail); try go_wp2)
   go_ret; exact ⟨by first | rfl | (simp; done) | (simp [*]; done),by repeat (first | exact Drawn0.refl _ | apply Drawn0.step)⟩
end Go.Proofs.Ytcdiecgenpigbaa.PA

namespace Go.Proofs.Ytcdiecgenpigbaa.PA
open Go.RowKit Go.Proofs.YtcdiecgenpigbaaW.PrintWords Go.Proofs.YtcdiecgenpigbaaW.PrintLast Go.Proofs.YtcdiecgenpigbaaW.PrintMore
attribute [local go_sem] ZQ ZS ZZ ZY ZL ZM ZT ZU
set_option linter.unusedVariables false
set_option linter.unusedSimpArgs false
def Z7.f (k : Nat)  : Option (Bool) := (ZR.f 2 1 12 4 8 0 0).bind fun bt180 => (if bt180.2.2 = 0 then (if bt180.2.1 = 28 then (if (bt180.1.length : Int) = 2 then (if 1 < (bt180.1.length : Int) then ((Z1.f k (rd_L4 bt180.1 1) (([16] : List Int))).bind fun t189 => (some t189)) else (none)) else (some false)) else (some false)) else (some false))
theorem Z7.mono : ∀ k,LeO (Z7.f k ) (Z7.f (k + 1) ) := by
 intro  k; unfold Z7.f
 repeat' first
  | (with_reducible exact Z1.mono _ _ _)
  | (with_reducible exact LeO.refl _)
  | (with_reducible exact LeO.none _)
  | (with_reducible refine LeO.ite ?_ ?_)
  | (with_reducible refine LeO.bind ?_ (fun _ => ?_))
  | exact Z1.mono _ _ _
  | exact LeO.none _
  | refine LeO.ite ?_ ?_
  | refine LeO.bind ?_ (fun _ => ?_)
set_option maxHeartbeats 8000000 in
set_option maxRecDepth 100000 in
theorem Z7.calls (k : Nat)  (r : Bool) (w : World) (h : Z7.f k  = some r) :
 Calls Try.prog 14 #[] w fun e w' => e = .returned (.bool r) ∧ Below w.heap.size w w' := by
 have hu25 := Try.underlying25; have HB := Zh.mk (Below.refl w.heap.size w); have H : ((ZR.f 2 1 12 4 8 0 0).bind fun bt180 => (if bt180.2.2 = 0 then (if bt180.2.1 = 28 then (if (bt180.1.length : Int) = 2 then (if 1 < (bt180.1.length : Int) then ((Z1.f k (rd_L4 bt180.1 1) (([16] : List Int))).bind fun t189 => (some t189)) else (none)) else (some false)) else (some false)) else (some false))) = some r := h; clear h; replace H := Option.bind_eq_some_iff.mp H; obtain ⟨⟨t180,t183,t184⟩,A10,H⟩ := H; replace H : (if t184 = 0 then (if t183 = 28 then (if (t180.length : Int) = 2 then (if 1 < (t180.length : Int) then ((Z1.f k (rd_L4 t180 1) (([16] : List Int))).bind fun t189 => (some t189)) else (none)) else (some false)) else (some false)) else (some false)) = some r := H; have A1 := Zh.mk A10; clear A10
 by_cases c2 : t184 = 0
 · rw [if_pos c2] at H
   have c2b0 : (t184 == 0) = true := beq_iff_eq.mpr c2; have c2b1 : (t184 != 0) = false := bne_eq_false_iff_eq.mpr c2; clear c2
   by_cases c3 : t183 = 28
   · rw [if_pos c3] at H
     have c3b0 : (t183 == 28) = true := beq_iff_eq.mpr c3; have c3b1 : (t183 != 28) = false := bne_eq_false_iff_eq.mpr c3; clear c3
     by_cases c4 : (t180.length : Int) = 2
     · rw [if_pos c4] at H
       have c4b0 : ((t180.length : Int) == 2) = true := beq_iff_eq.mpr c4; have c4b1 : ((t180.length : Int) != 2) = false := bne_eq_false_iff_eq.mpr c4; clear c4
       by_cases c5 : 1 < (t180.length : Int)
       · rw [if_pos c5] at H
         have c5b0 : decide (1 < (t180.length : Int)) = true := decide_eq_true c5; have c5b1 : decide (1 < t180.length) = true := decide_eq_true (by omega); clear c5
         obtain ⟨y186,hy186⟩ : ∃ y_ : List Int,y_ = (([16] : List Int)) := ⟨_,rfl⟩
         replace H : ((Z1.f k (rd_L4 t180 1) y186).bind fun t189 => (some t189)) = some r := by first | (rw [hy186]; with_reducible exact H) | (have H2_ := (Option.bind_some _ _).symm.trans H; rw [hy186]; with_reducible exact H2_) | (have H2_ := (Option.bind_some _ _).symm.trans H; with_reducible exact H2_) | with_reducible exact H | (rw [hy186]; exact H) | exact H
         have Ny186 := Zh.mk hy186; clear hy186; replace H := Option.bind_eq_some_iff.mp H; obtain ⟨t189,A60,H⟩ := H; replace H : (some t189) = some r := H; have A6 := Zh.mk A60; clear A60; obtain rfl := Option.some.inj H
         go_enter Try.func14,Try.ntmps14
         go_wp2_with (first | ((with_reducible refine Z3 (f := 9) rfl ?_); refine ZE (some 6) rfl rfl Try.func9 (by kernel_rfl) rfl #[.agg #[.int .i64 2,.int .i64 1,.int .i64 12,.int .i64 4,.int .i64 8,.int .i64 0],.int .i64 0] rfl (by (try simp only [List.map_toArray,List.map_cons,List.map_nil]); first | done | rfl | (simp only [List.length_drop,List.length_take]; rfl)) ?_; (with_reducible refine (ZR.calls 2 1 12 4 8 0 0 t180 t183 t184 _ A1.out).mono ?_); rintro e w7 ⟨v181,rfl,ho0,hb⟩; refine ⟨_,rfl,?_⟩; have n0_ := Zh.mk (Kd.Xw ho0 (Zt (by repeat (first | (with_reducible first | exact HB.out | apply Zk | apply Zi | apply Zj) | exact HB.out)))); have n1_ := Zh.mk (Zv (by repeat (first | (with_reducible first | exact HB.out | apply Zk | apply Zi | apply Zj) | exact HB.out)) hb); clear HB; have HO182 := n0_; have HB := n1_; clear n0_ n1_; (try clear hb); (try clear hb2); (try clear hk); (try clear hi); (try clear ho0); obtain ⟨Ao8,co8,eo8⟩ := Kd.Xm HO182.out; subst eo8; have p185 : 0 ≤ (1 : Int) := (by omega); have q185 : 1 < (t180.length : Int) := of_decide_eq_true (by first | (with_reducible assumption) | assumption); obtain ⟨ad185,A185_0,c185_0,e185,hx185_0,hl185_0,hi185_0⟩ := at_L4 (Kd.ZJ HO182.out).2.2 1 p185 q185; cases e185; obtain ⟨ce185,hce185,hMe185,hcc185⟩ := Kd.S_get HO182.out [] 1 p185 (by first | exact q185 | exact of_decide_eq_true (by first | (with_reducible assumption) | assumption) | (have e_ := (Kd.ZJ HO182.out).1; omega)); obtain ⟨ve185_0,rfl,ge185_0⟩ := hMe185; have hv185_0 := hcc185 0 _ rfl; rw [Nat.add_zero,show ((Kd.slice 3 (Kd.int .i64))).sz = 1 from rfl,Nat.mul_one] at hv185_0; replace hv185_0 := Option.some.inj (hv185_0.symm.trans hx185_0); rw [hv185_0] at ge185_0; have HL185_0 := Zh.mk (show Kd.R (Kd.int .i64) 3 _ _ _ _ (rd_L4 t180 1) from ge185_0); clear hv185_0 ge185_0; clear hcc185 hce185; (try simp only [show (1 : Int).toNat = 1 from rfl,Nat.reduceMul,Nat.reduceEqDiff,Go.Addr.add,↓reduceIte] at hx185_0); have qi185 : (1 < t180.length) = True := eq_true (by omega); (try rw [show ((1 : Int)).toNat = 1 from rfl] at hx185_0); have HR185_0 := Zh.mk hi185_0; have HC185_0 := Zh.mk hl185_0; clear hi185_0 hl185_0; replace p185 := eq_true p185; replace q185 := eq_true q185) | ((with_reducible refine ZD (N := 25) rfl ?_); (try (refine Xp (by rfl) ?_; dsimp only)); refine Kd.R_lit (Kd.int .i64) _ 3 ?hg (N := 25) ?hd (xs := ([16] : List Int)) (inner := [.int .i64 16]) (ok := fun _ => True) (okp := fun _ => True) ?hr ?hp (fun _ hk => hk) trivial (Below.refl _ _) (Nat.le_refl _) (by simp) ?_; (case hd => rfl); (case hg => rfl); (case hr => first | (go_simp; done) | (go_simp; rfl)); (case hp => exact (Reps.one (show Kd.M (Kd.int .i64) _ _ _ 16 [.int .i64 16] from rfl) (Reps.none _ _))); intro v187 w9 ho10 hb hg_ hnew_; clear hg_ hnew_; (first | rw [← Ny186.out] at ho10 | (simp only [Int.reduceToNat] at ho10; rw [← Ny186.out] at ho10)); have n0_ := Zh.mk (Kd.QD (by (with_reducible repeat (first | apply Kd.ZH | apply Kd.ZI | apply Kd.ZG)); exact HO182.out) (Kd.QN ho10) hb); have n1_ := Zh.mk (Kd.QM (by (with_reducible repeat (first | apply Kd.XQ | apply Kd.Qb | apply Kd.X4)); exact HL185_0.out) (Kd.QN ho10) hb); have n2_ := Zh.mk (Kd.Q6 (Kd.Yg ho10 (Kd.R_lt (by (with_reducible repeat (first | apply Kd.XQ | apply Kd.Qb | apply Kd.X4)); exact HL185_0.out))) (Zt (by repeat (first | (with_reducible first | exact HB.out | apply Zk | apply Zi | apply Zj) | exact HB.out)))); have n3_ := Zh.mk (Kd.XT (by repeat (first | (with_reducible exact HR185_0.out) | (with_reducible refine Kd.ZV ?_ _) | (with_reducible refine Kd.ZW ?_ _) | (with_reducible refine Kd.ZX ?_) | exact HR185_0.out)) hb); have n4_ := Zh.mk (Zv (by repeat (first | (with_reducible first | exact HB.out | apply Zk | apply Zi | apply Zj) | exact HB.out)) hb); clear HO182; clear HL185_0; clear HR185_0; clear HB; have HO182 := n0_; have HL185_0 := n1_; have HO188 := n2_; have HR185_0 := n3_; have HB := n4_; clear n0_ n1_ n2_ n3_ n4_; clear hb ho10; obtain ⟨Ao11,co11,eo11⟩ := Kd.Qc HO188.out; subst eo11) | (go_at_call 38; (with_reducible refine (Z1.calls k _ _ (rd_L4 t180 1) _ _ y186 t189 _ ?side1 ?side2 ?side3 ?side4 A6.out).mono ?_); (case side1 => repeat (first | exact (by repeat (first | (with_reducible exact HR185_0.out) | (with_reducible refine Kd.ZV ?_ _) | (with_reducible refine Kd.ZW ?_ _) | (with_reducible refine Kd.ZX ?_) | exact HR185_0.out)) | (with_reducible refine Kd.ZV ?_ _) | (with_reducible refine Kd.ZW ?_ _) | (with_reducible refine Kd.ZX ?_))); (case side2 => exact HC185_0.out); (case side3 => repeat (first | exact (Kd.Xz HO188.out).2.2 | (with_reducible refine Kd.ZV ?_ _) | (with_reducible refine Kd.ZW ?_ _) | (with_reducible refine Kd.ZX ?_))); (case side4 => exact (Kd.Xz HO188.out).2.1); rintro e w' ⟨rfl,⟨nd,rfl⟩⟩))
         go_ret; exact ⟨by first | rfl | (simp [Zw,Zx] <;> rfl) | (simp [*,Zw,Zx] <;> rfl),by repeat (first | (with_reducible first | exact HB.out | apply Zk | apply Zi | apply Zj) | exact HB.out)⟩
       · rw [if_neg c5] at H
         exact absurd H (by simp)
     · rw [if_neg c4] at H
       have c4b0 : ((t180.length : Int) == 2) = false := beq_eq_false_iff_ne.mpr c4; have c4b1 : ((t180.length : Int) != 2) = true := bne_iff_ne.mpr c4; obtain rfl := Option.some.inj H
       go_enter Try.func14,Try.ntmps14
       go_wp2_with (first | ((with_reducible refine Z3 (f := 9) rfl ?_); refine ZE (some 6) rfl rfl Try.func9 (by kernel_rfl) rfl #[.agg #[.int .i64 2,.int .i64 1,.int .i64 12,.int .i64 4,.int .i64 8,.int .i64 0],.int .i64 0] rfl (by (try simp only [List.map_toArray,List.map_cons,List.map_nil]); first | done | rfl | (simp only [List.length_drop,List.length_take]; rfl)) ?_; (with_reducible refine (ZR.calls 2 1 12 4 8 0 0 t180 t183 t184 _ A1.out).mono ?_); rintro e w12 ⟨v181,rfl,ho0,hb⟩; refine ⟨_,rfl,?_⟩; have n0_ := Zh.mk (Kd.Xw ho0 (Zt (by repeat (first | (with_reducible first | exact HB.out | apply Zk | apply Zi | apply Zj) | exact HB.out)))); have n1_ := Zh.mk (Zv (by repeat (first | (with_reducible first | exact HB.out | apply Zk | apply Zi | apply Zj) | exact HB.out)) hb); clear HB; have HO182 := n0_; have HB := n1_; clear n0_ n1_; (try clear hb); (try clear hb2); (try clear hk); (try clear hi); (try clear ho0); obtain ⟨Ao13,co13,eo13⟩ := Kd.Xm HO182.out; subst eo13))
       go_ret; exact ⟨by first | rfl | (simp [Zw,Zx] <;> rfl) | (simp [*,Zw,Zx] <;> rfl),by repeat (first | (with_reducible first | exact HB.out | apply Zk | apply Zi | apply Zj) | exact HB.out)⟩
   · rw [if_neg c3] at H
     have c3b0 : (t183 == 28) = false := beq_eq_false_iff_ne.mpr c3; have c3b1 : (t183 != 28) = true := bne_iff_ne.mpr c3; obtain rfl := Option.some.inj H
     go_enter Try.func14,Try.ntmps14
     go_wp2_with (first | ((with_reducible refine Z3 (f := 9) rfl ?_); refine ZE (some 6) rfl rfl Try.func9 (by kernel_rfl) rfl #[.agg #[.int .i64 2,.int .i64 1,.int .i64 12,.int .i64 4,.int .i64 8,.int .i64 0],.int .i64 0] rfl (by (try simp only [List.map_toArray,List.map_cons,List.map_nil]); first | done | rfl | (simp only [List.length_drop,List.length_take]; rfl)) ?_; (with_reducible refine (ZR.calls 2 1 12 4 8 0 0 t180 t183 t184 _ A1.out).mono ?_); rintro e w14 ⟨v181,rfl,ho0,hb⟩; refine ⟨_,rfl,?_⟩; have n0_ := Zh.mk (Kd.Xw ho0 (Zt (by repeat (first | (with_reducible first | exact HB.out | apply Zk | apply Zi | apply Zj) | exact HB.out)))); have n1_ := Zh.mk (Zv (by repeat (first | (with_reducible first | exact HB.out | apply Zk | apply Zi | apply Zj) | exact HB.out)) hb); clear HB; have HO182 := n0_; have HB := n1_; clear n0_ n1_; (try clear hb); (try clear hb2); (try clear hk); (try clear hi); (try clear ho0)))
     go_ret; exact ⟨by first | rfl | (simp [Zw,Zx] <;> rfl) | (simp [*,Zw,Zx] <;> rfl),by repeat (first | (with_reducible first | exact HB.out | apply Zk | apply Zi | apply Zj) | exact HB.out)⟩
 · rw [if_neg c2] at H
   have c2b0 : (t184 == 0) = false := beq_eq_false_iff_ne.mpr c2; have c2b1 : (t184 != 0) = true := bne_iff_ne.mpr c2; obtain rfl := Option.some.inj H
   go_enter Try.func14,Try.ntmps14
   go_wp2_with (first | ((with_reducible refine Z3 (f := 9) rfl ?_); refine ZE (some 6) rfl rfl Try.func9 (by kernel_rfl) rfl #[.agg #[.int .i64 2,.int .i64 1,.int .i64 12,.int .i64 4,.int .i64 8,.int .i64 0],.int .i64 0] rfl (by (try simp only [List.map_toArray,List.map_cons,List.map_nil]); first | done | rfl | (simp only [List.length_drop,List.length_take]; rfl)) ?_; (with_reducible refine (ZR.calls 2 1 12 4 8 0 0 t180 t183 t184 _ A1.out).mono ?_); rintro e w15 ⟨v181,rfl,ho0,hb⟩; refine ⟨_,rfl,?_⟩; have n0_ := Zh.mk (Kd.Xw ho0 (Zt (by repeat (first | (with_reducible first | exact HB.out | apply Zk | apply Zi | apply Zj) | exact HB.out)))); have n1_ := Zh.mk (Zv (by repeat (first | (with_reducible first | exact HB.out | apply Zk | apply Zi | apply Zj) | exact HB.out)) hb); clear HB; have HO182 := n0_; have HB := n1_; clear n0_ n1_; (try clear hb); (try clear hb2); (try clear hk); (try clear hi); (try clear ho0)))
   go_ret; exact ⟨by first | rfl | (simp [Zw,Zx] <;> rfl) | (simp [*,Zw,Zx] <;> rfl),by repeat (first | (with_reducible first | exact HB.out | apply Zk | apply Zi | apply Zj) | exact HB.out)⟩
end Go.Proofs.Ytcdiecgenpigbaa.PA
