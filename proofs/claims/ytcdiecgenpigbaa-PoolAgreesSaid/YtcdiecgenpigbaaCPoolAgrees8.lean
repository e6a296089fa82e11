/- PoolAgrees, part 8: what the row is built on. -/
import Derived.Test.YtcdiecgenpigbaaCPoolAgrees7
namespace Go.Proofs.Ytcdiecgenpigbaa.PA
open Go.RowKit Go.Proofs.YtcdiecgenpigbaaW.PrintWords Go.Proofs.YtcdiecgenpigbaaW.PrintLast Go.Proofs.YtcdiecgenpigbaaW.PrintMore
attribute [local go_sem] ZQ ZS ZZ ZY ZL ZM ZT ZU
set_option linter.unusedVariables false
set_option linter.unusedSimpArgs false
attribute [local go_sem high] eqA25
set_option maxHeartbeats 8000000 in
set_option maxRecDepth 100000 in
set_option tactic.hygienic false in
theorem Zg.calls (k : Nat) (a0_0 : Int) (a0_1 : Int) (a0_2 : Int) (a0_3 : Int) (a0_4 : Int) (a0_5 : Int) (a0_6 : Int) (a1_0 : Int) (a1_1 : Int) (a1_2 : Int) (a1_3 : Int) (a1_4 : Int) (a1_5 : Int) (a1_6 : Int) (a2 : Int) (a3_0 : Int) (a3_1 : Int) (a3_2 : Int) (a3_3 : Int) (a3_4 : Int) (a3_5 : Int) (a4 : Int) (r : Bool) (w : World) (h : Zg.f k a0_0 a0_1 a0_2 a0_3 a0_4 a0_5 a0_6 a1_0 a1_1 a1_2 a1_3 a1_4 a1_5 a1_6 a2 a3_0 a3_1 a3_2 a3_3 a3_4 a3_5 a4 = some r) :
 Calls Try.prog 3 #[.agg #[.int .i64 a0_0,.int .i64 a0_1,.int .i64 a0_2,.int .i64 a0_3,.int .i64 a0_4,.int .i64 a0_5,.int .i64 a0_6],.agg #[.int .i64 a1_0,.int .i64 a1_1,.int .i64 a1_2,.int .i64 a1_3,.int .i64 a1_4,.int .i64 a1_5,.int .i64 a1_6],.int .i64 a2,.agg #[.int .i64 a3_0,.int .i64 a3_1,.int .i64 a3_2,.int .i64 a3_3,.int .i64 a3_4,.int .i64 a3_5],.int .i64 a4] w fun e w' => e = .returned (.bool r) ∧ Below w.heap.size w w' := by
 refine (Zg.cutA k a0_0 a0_1 a0_2 a0_3 a0_4 a0_5 a0_6 a1_0 a1_1 a1_2 a1_3 a1_4 a1_5 a1_6 a2 a3_0 a3_1 a3_2 a3_3 a3_4 a3_5 a4 r w).2 ?_ h; clear h; intro wz_; intros; obtain ⟨kq,x111_11,rfl,HA,HJ11,BK190,BK191,BK192,BK200,BK208,HB⟩ := hcut
 cases kq with
 | zero => exact absurd HA.out (by simp [Zg.j0])
 | succ kj11 =>
  have H := HA.out; clear HA; simp only [Zg.j0] at H
  by_cases c86 : x111_11 = true
  · subst c86
    have H1 : (some false) = some r := by rw [if_pos rfl] at H; exact H
    clear H; have H := H1; clear H1; obtain rfl := Option.some.inj H
    go_wp2
    go_ret; exact ⟨by first | rfl | (simp [Zw,Zx] <;> rfl) | (simp [*,Zw,Zx] <;> rfl),by repeat (first | (with_reducible first | exact HB.out | apply Zk | apply Zi | apply Zj | refine Zf ?_ GE190.out | refine Zf ?_ GE191.out | refine Zf ?_ GE192.out | refine Zf ?_ GE200.out | refine Zf ?_ GE208.out) | exact HB.out)⟩
  · replace c86 := Bool.eq_false_iff.mpr c86
    subst c86
    have H1 : (if t207 = 0 then ((Zy.f kj11 a1_0 a1_1 a1_2 a1_3 a1_4 a1_5 a1_6 a0_0 a0_1 a0_2 a0_3 a0_4 a0_5 a0_6 a2).bind fun bt227 => ((Xa.f t193 t194 t195 t196 t197 t198 a0_0 a0_1 a0_2 a0_3 a0_4 a0_5 a0_6).bind fun bt235 => ((Xa.f t193 t194 t195 t196 t197 t198 a1_0 a1_1 a1_2 a1_3 a1_4 a1_5 a1_6).bind fun bt237 => (if (!(bt227.1 == t193) || (!(bt227.2.1 == t194) || (!(bt227.2.2.1 == t195) || (!(bt227.2.2.2.1 == t196) || (!(bt227.2.2.2.2.1 == t197) || (!(bt227.2.2.2.2.2.1 == t198))))))) = true then (Zg.j1 kj11 true t193 t194 t195 t196 t197 t198) else (if bt227.2.2.2.2.2.2 = 0 then (if bt235.1 = true then (if bt237.1 = true then (if bt235.2 = 0 then (Zg.j1 kj11 (bt237.2 != 0) t193 t194 t195 t196 t197 t198) else (Zg.j1 kj11 true t193 t194 t195 t196 t197 t198)) else (Zg.j1 kj11 true t193 t194 t195 t196 t197 t198)) else (Zg.j1 kj11 true t193 t194 t195 t196 t197 t198)) else (Zg.j1 kj11 true t193 t194 t195 t196 t197 t198)))))) else ((Z7.f kj11).bind fun t226 => (some t226))) = some r := by rw [if_neg (show ¬ (false = true) by decide)] at H; exact H
    clear H; have H := H1; clear H1
    by_cases c87 : t207 = 0
    · rw [if_pos c87] at H
      have c87b0 : (t207 == 0) = true := beq_iff_eq.mpr c87; have c87b1 : (t207 != 0) = false := bne_eq_false_iff_eq.mpr c87; clear c87; replace H := Option.bind_eq_some_iff.mp H; obtain ⟨⟨t227,t228,t229,t230,t231,t232,t233⟩,A880,H⟩ := H; replace H : ((Xa.f t193 t194 t195 t196 t197 t198 a0_0 a0_1 a0_2 a0_3 a0_4 a0_5 a0_6).bind fun bt235 => ((Xa.f t193 t194 t195 t196 t197 t198 a1_0 a1_1 a1_2 a1_3 a1_4 a1_5 a1_6).bind fun bt237 => (if (!(t227 == t193) || (!(t228 == t194) || (!(t229 == t195) || (!(t230 == t196) || (!(t231 == t197) || (!(t232 == t198))))))) = true then (Zg.j1 kj11 true t193 t194 t195 t196 t197 t198) else (if t233 = 0 then (if bt235.1 = true then (if bt237.1 = true then (if bt235.2 = 0 then (Zg.j1 kj11 (bt237.2 != 0) t193 t194 t195 t196 t197 t198) else (Zg.j1 kj11 true t193 t194 t195 t196 t197 t198)) else (Zg.j1 kj11 true t193 t194 t195 t196 t197 t198)) else (Zg.j1 kj11 true t193 t194 t195 t196 t197 t198)) else (Zg.j1 kj11 true t193 t194 t195 t196 t197 t198))))) = some r := H; have A88 := Zh.mk A880; clear A880; replace H := Option.bind_eq_some_iff.mp H; obtain ⟨⟨t235,t236⟩,A890,H⟩ := H; replace H : ((Xa.f t193 t194 t195 t196 t197 t198 a1_0 a1_1 a1_2 a1_3 a1_4 a1_5 a1_6).bind fun bt237 => (if (!(t227 == t193) || (!(t228 == t194) || (!(t229 == t195) || (!(t230 == t196) || (!(t231 == t197) || (!(t232 == t198))))))) = true then (Zg.j1 kj11 true t193 t194 t195 t196 t197 t198) else (if t233 = 0 then (if t235 = true then (if bt237.1 = true then (if t236 = 0 then (Zg.j1 kj11 (bt237.2 != 0) t193 t194 t195 t196 t197 t198) else (Zg.j1 kj11 true t193 t194 t195 t196 t197 t198)) else (Zg.j1 kj11 true t193 t194 t195 t196 t197 t198)) else (Zg.j1 kj11 true t193 t194 t195 t196 t197 t198)) else (Zg.j1 kj11 true t193 t194 t195 t196 t197 t198)))) = some r := H; have A89 := Zh.mk A890; clear A890; replace H := Option.bind_eq_some_iff.mp H; obtain ⟨⟨t237,t238⟩,A900,H⟩ := H; replace H : (if (!(t227 == t193) || (!(t228 == t194) || (!(t229 == t195) || (!(t230 == t196) || (!(t231 == t197) || (!(t232 == t198))))))) = true then (Zg.j1 kj11 true t193 t194 t195 t196 t197 t198) else (if t233 = 0 then (if t235 = true then (if t237 = true then (if t236 = 0 then (Zg.j1 kj11 (t238 != 0) t193 t194 t195 t196 t197 t198) else (Zg.j1 kj11 true t193 t194 t195 t196 t197 t198)) else (Zg.j1 kj11 true t193 t194 t195 t196 t197 t198)) else (Zg.j1 kj11 true t193 t194 t195 t196 t197 t198)) else (Zg.j1 kj11 true t193 t194 t195 t196 t197 t198))) = some r := H; have A90 := Zh.mk A900; clear A900; have HC91 := Zh.mk H; clear H; have hnb92 := NB191_190.out; have hnc92 := NB190_191.out; have hnb93 := NB191_192.out; have hnc93 := NB192_191.out; have hnb94 := NB191_200.out; have hnc94 := NB200_191.out; have hnb95 := NB191_208.out; have hnc95 := NB208_191.out; have hcz96_0 : wc.cell? ⟨gb191,0,none⟩ = some (.int .i64 a1_0) := (Za BK191.out 0).trans rfl; have hcz96_1 : wc.cell? ⟨gb191,1,none⟩ = some (.int .i64 a1_1) := (Za BK191.out 1).trans rfl; have hcz96_2 : wc.cell? ⟨gb191,2,none⟩ = some (.int .i64 a1_2) := (Za BK191.out 2).trans rfl; have hcz96_3 : wc.cell? ⟨gb191,3,none⟩ = some (.int .i64 a1_3) := (Za BK191.out 3).trans rfl; have hcz96_4 : wc.cell? ⟨gb191,4,none⟩ = some (.int .i64 a1_4) := (Za BK191.out 4).trans rfl; have hcz96_5 : wc.cell? ⟨gb191,5,none⟩ = some (.int .i64 a1_5) := (Za BK191.out 5).trans rfl; have hcz96_6 : wc.cell? ⟨gb191,6,none⟩ = some (.int .i64 a1_6) := (Za BK191.out 6).trans rfl; have hfz96_0 := Zb BK191.out 0; have hfz96_1 := Zb BK191.out 1; have hfz96_2 := Zb BK191.out 2; have hfz96_3 := Zb BK191.out 3; have hfz96_4 := Zb BK191.out 4; have hfz96_5 := Zb BK191.out 5; have hfz96_6 := Zb BK191.out 6; have hnb97 := NB190_192.out; have hnc97 := NB192_190.out; have hnb98 := NB190_200.out; have hnc98 := NB200_190.out; have hnb99 := NB190_208.out; have hnc99 := NB208_190.out; have hcz100_0 : wc.cell? ⟨gb190,0,none⟩ = some (.int .i64 a0_0) := (Za BK190.out 0).trans rfl; have hcz100_1 : wc.cell? ⟨gb190,1,none⟩ = some (.int .i64 a0_1) := (Za BK190.out 1).trans rfl; have hcz100_2 : wc.cell? ⟨gb190,2,none⟩ = some (.int .i64 a0_2) := (Za BK190.out 2).trans rfl; have hcz100_3 : wc.cell? ⟨gb190,3,none⟩ = some (.int .i64 a0_3) := (Za BK190.out 3).trans rfl; have hcz100_4 : wc.cell? ⟨gb190,4,none⟩ = some (.int .i64 a0_4) := (Za BK190.out 4).trans rfl; have hcz100_5 : wc.cell? ⟨gb190,5,none⟩ = some (.int .i64 a0_5) := (Za BK190.out 5).trans rfl; have hcz100_6 : wc.cell? ⟨gb190,6,none⟩ = some (.int .i64 a0_6) := (Za BK190.out 6).trans rfl; have hfz100_0 := Zb BK190.out 0; have hfz100_1 := Zb BK190.out 1; have hfz100_2 := Zb BK190.out 2; have hfz100_3 := Zb BK190.out 3; have hfz100_4 := Zb BK190.out 4; have hfz100_5 := Zb BK190.out 5; have hfz100_6 := Zb BK190.out 6
      go_upto_region 14 with (first | ((with_reducible refine Z3 (f := 5) rfl ?_); refine ZE (some 119) rfl rfl Try.func5 (by kernel_rfl) rfl #[.agg #[.int .i64 a1_0,.int .i64 a1_1,.int .i64 a1_2,.int .i64 a1_3,.int .i64 a1_4,.int .i64 a1_5,.int .i64 a1_6],.agg #[.int .i64 a0_0,.int .i64 a0_1,.int .i64 a0_2,.int .i64 a0_3,.int .i64 a0_4,.int .i64 a0_5,.int .i64 a0_6],.int .i64 a2] rfl (by (try simp only [List.map_toArray,List.map_cons,List.map_nil]); first | done | rfl | (simp only [List.length_drop,List.length_take]; rfl)) ?_; (with_reducible refine (Zy.calls kj11 a1_0 a1_1 a1_2 a1_3 a1_4 a1_5 a1_6 a0_0 a0_1 a0_2 a0_3 a0_4 a0_5 a0_6 a2 t227 t228 t229 t230 t231 t232 t233 _ A88.out).mono ?_); rintro e w101 ⟨rfl,hb⟩; refine ⟨_,rfl,?_⟩; have n0_ := Zh.mk (Zn (g := gb190) (o := .cells #[.int .i64 a0_0,.int .i64 a0_1,.int .i64 a0_2,.int .i64 a0_3,.int .i64 a0_4,.int .i64 a0_5,.int .i64 a0_6] 23 (0,0)) (by (with_reducible repeat (first | refine Zc ?_ _ | refine Ze ?_ | refine Zd ?_ _)); exact BK190.out) hb); have n1_ := Zh.mk (Zn (g := gb191) (o := .cells #[.int .i64 a1_0,.int .i64 a1_1,.int .i64 a1_2,.int .i64 a1_3,.int .i64 a1_4,.int .i64 a1_5,.int .i64 a1_6] 23 (0,0)) (by (with_reducible repeat (first | refine Zc ?_ _ | refine Ze ?_ | refine Zd ?_ _)); exact BK191.out) hb); have n2_ := Zh.mk (Zn (g := gb192) (o := .cells #[.int .i64 a3_0,.int .i64 a3_1,.int .i64 a3_2,.int .i64 a3_3,.int .i64 a3_4,.int .i64 a3_5] 25 (0,0)) (by (with_reducible repeat (first | refine Zc ?_ _ | refine Ze ?_ | refine Zd ?_ _)); exact BK192.out) hb); have n3_ := Zh.mk (Zn (g := gb200) (o := .cells #[.int .i64 t193,.int .i64 t194,.int .i64 t195,.int .i64 t196,.int .i64 t197,.int .i64 t198] 25 (0,0)) (by (with_reducible repeat (first | refine Zc ?_ _ | refine Ze ?_ | refine Zd ?_ _)); exact BK200.out) hb); have n4_ := Zh.mk (Zn (g := gb208) (o := .cells #[.int .i64 t201,.int .i64 t202,.int .i64 t203,.int .i64 t204,.int .i64 t205,.int .i64 t206] 25 (0,0)) (by (with_reducible repeat (first | refine Zc ?_ _ | refine Ze ?_ | refine Zd ?_ _)); exact BK208.out) hb); have n5_ := Zh.mk (Zv (by repeat (first | (with_reducible first | exact HB.out | apply Zk | apply Zi | apply Zj | refine Zf ?_ GE190.out | refine Zf ?_ GE191.out | refine Zf ?_ GE192.out | refine Zf ?_ GE200.out | refine Zf ?_ GE208.out) | exact HB.out)) hb); clear BK190; clear BK191; clear BK192; clear BK200; clear BK208; clear HB; have BK190 := n0_; have BK191 := n1_; have BK192 := n2_; have BK200 := n3_; have BK208 := n4_; have HB := n5_; clear n0_ n1_ n2_ n3_ n4_ n5_; (try clear hb); (try clear hb2); (try clear hk); (try clear hi)) | ((with_reducible refine ZD (N := 25) rfl ?_); (try (refine Xp (by rfl) ?_; dsimp only)); refine Z9 ?hg (N := 25) ?hd (cs := #[.int .i64 0,.int .i64 0,.int .i64 0,.int .i64 0,.int .i64 0,.int .i64 0]) (t := 25) ?hr ?_; (case hd => rfl); (case hg => rfl); (case hr => first | (go_simp; done) | (go_simp; rfl)); intro gb234 hg w102 hbox hb; have n0_ := Zh.mk (Zn (g := gb190) (o := .cells #[.int .i64 a0_0,.int .i64 a0_1,.int .i64 a0_2,.int .i64 a0_3,.int .i64 a0_4,.int .i64 a0_5,.int .i64 a0_6] 23 (0,0)) (by (with_reducible repeat (first | refine Zc ?_ _ | refine Ze ?_ | refine Zd ?_ _)); exact BK190.out) hb); have n1_ := Zh.mk (Zn (g := gb191) (o := .cells #[.int .i64 a1_0,.int .i64 a1_1,.int .i64 a1_2,.int .i64 a1_3,.int .i64 a1_4,.int .i64 a1_5,.int .i64 a1_6] 23 (0,0)) (by (with_reducible repeat (first | refine Zc ?_ _ | refine Ze ?_ | refine Zd ?_ _)); exact BK191.out) hb); have n2_ := Zh.mk (Zn (g := gb192) (o := .cells #[.int .i64 a3_0,.int .i64 a3_1,.int .i64 a3_2,.int .i64 a3_3,.int .i64 a3_4,.int .i64 a3_5] 25 (0,0)) (by (with_reducible repeat (first | refine Zc ?_ _ | refine Ze ?_ | refine Zd ?_ _)); exact BK192.out) hb); have n3_ := Zh.mk (Zn (g := gb200) (o := .cells #[.int .i64 t193,.int .i64 t194,.int .i64 t195,.int .i64 t196,.int .i64 t197,.int .i64 t198] 25 (0,0)) (by (with_reducible repeat (first | refine Zc ?_ _ | refine Ze ?_ | refine Zd ?_ _)); exact BK200.out) hb); have n4_ := Zh.mk (Zn (g := gb208) (o := .cells #[.int .i64 t201,.int .i64 t202,.int .i64 t203,.int .i64 t204,.int .i64 t205,.int .i64 t206] 25 (0,0)) (by (with_reducible repeat (first | refine Zc ?_ _ | refine Ze ?_ | refine Zd ?_ _)); exact BK208.out) hb); have n5_ := Zh.mk (Zv (by repeat (first | (with_reducible first | exact HB.out | apply Zk | apply Zi | apply Zj | refine Zf ?_ GE190.out | refine Zf ?_ GE191.out | refine Zf ?_ GE192.out | refine Zf ?_ GE200.out | refine Zf ?_ GE208.out) | exact HB.out)) hb); have n6_ := Zh.mk (hbox); have n7_ := Zh.mk ((by rw [hg]; exact (Zt (by repeat (first | (with_reducible first | exact HB.out | apply Zk | apply Zi | apply Zj | refine Zf ?_ GE190.out | refine Zf ?_ GE191.out | refine Zf ?_ GE192.out | refine Zf ?_ GE200.out | refine Zf ?_ GE208.out) | exact HB.out))) : w.heap.size ≤ gb234)); have n8_ := Zh.mk ((by rw [hg]; exact (Zt (by repeat (first | (with_reducible first | exact HB.out | apply Zk | apply Zi | apply Zj | refine Zf ?_ GE190.out | refine Zf ?_ GE191.out | refine Zf ?_ GE192.out | refine Zf ?_ GE200.out | refine Zf ?_ GE208.out) | exact HB.out))) : w.heap.size ≤ gb234)); have n9_ := Zh.mk ((by rw [hg]; exact Nat.ne_of_lt (ZB (g := gb190) (o := .cells #[.int .i64 a0_0,.int .i64 a0_1,.int .i64 a0_2,.int .i64 a0_3,.int .i64 a0_4,.int .i64 a0_5,.int .i64 a0_6] 23 (0,0)) (by (with_reducible repeat (first | refine Zc ?_ _ | refine Ze ?_ | refine Zd ?_ _)); exact BK190.out)) : gb190 ≠ gb234)); have n10_ := Zh.mk ((by rw [hg]; exact Nat.ne_of_gt (ZB (g := gb190) (o := .cells #[.int .i64 a0_0,.int .i64 a0_1,.int .i64 a0_2,.int .i64 a0_3,.int .i64 a0_4,.int .i64 a0_5,.int .i64 a0_6] 23 (0,0)) (by (with_reducible repeat (first | refine Zc ?_ _ | refine Ze ?_ | refine Zd ?_ _)); exact BK190.out)) : gb234 ≠ gb190)); have n11_ := Zh.mk ((by rw [hg]; exact Nat.ne_of_lt (ZB (g := gb191) (o := .cells #[.int .i64 a1_0,.int .i64 a1_1,.int .i64 a1_2,.int .i64 a1_3,.int .i64 a1_4,.int .i64 a1_5,.int .i64 a1_6] 23 (0,0)) (by (with_reducible repeat (first | refine Zc ?_ _ | refine Ze ?_ | refine Zd ?_ _)); exact BK191.out)) : gb191 ≠ gb234)); have n12_ := Zh.mk ((by rw [hg]; exact Nat.ne_of_gt (ZB (g := gb191) (o := .cells #[.int .i64 a1_0,.int .i64 a1_1,.int .i64 a1_2,.int .i64 a1_3,.int .i64 a1_4,.int .i64 a1_5,.int .i64 a1_6] 23 (0,0)) (by (with_reducible repeat (first | refine Zc ?_ _ | refine Ze ?_ | refine Zd ?_ _)); exact BK191.out)) : gb234 ≠ gb191)); have n13_ := Zh.mk ((by rw [hg]; exact Nat.ne_of_lt (ZB (g := gb192) (o := .cells #[.int .i64 a3_0,.int .i64 a3_1,.int .i64 a3_2,.int .i64 a3_3,.int .i64 a3_4,.int .i64 a3_5] 25 (0,0)) (by (with_reducible repeat (first | refine Zc ?_ _ | refine Ze ?_ | refine Zd ?_ _)); exact BK192.out)) : gb192 ≠ gb234)); have n14_ := Zh.mk ((by rw [hg]; exact Nat.ne_of_gt (ZB (g := gb192) (o := .cells #[.int .i64 a3_0,.int .i64 a3_1,.int .i64 a3_2,.int .i64 a3_3,.int .i64 a3_4,.int .i64 a3_5] 25 (0,0)) (by (with_reducible repeat (first | refine Zc ?_ _ | refine Ze ?_ | refine Zd ?_ _)); exact BK192.out)) : gb234 ≠ gb192)); have n15_ := Zh.mk ((by rw [hg]; exact Nat.ne_of_lt (ZB (g := gb200) (o := .cells #[.int .i64 t193,.int .i64 t194,.int .i64 t195,.int .i64 t196,.int .i64 t197,.int .i64 t198] 25 (0,0)) (by (with_reducible repeat (first | refine Zc ?_ _ | refine Ze ?_ | refine Zd ?_ _)); exact BK200.out)) : gb200 ≠ gb234)); have n16_ := Zh.mk ((by rw [hg]; exact Nat.ne_of_gt (ZB (g := gb200) (o := .cells #[.int .i64 t193,.int .i64 t194,.int .i64 t195,.int .i64 t196,.int .i64 t197,.int .i64 t198] 25 (0,0)) (by (with_reducible repeat (first | refine Zc ?_ _ | refine Ze ?_ | refine Zd ?_ _)); exact BK200.out)) : gb234 ≠ gb200)); have n17_ := Zh.mk ((by rw [hg]; exact Nat.ne_of_lt (ZB (g := gb208) (o := .cells #[.int .i64 t201,.int .i64 t202,.int .i64 t203,.int .i64 t204,.int .i64 t205,.int .i64 t206] 25 (0,0)) (by (with_reducible repeat (first | refine Zc ?_ _ | refine Ze ?_ | refine Zd ?_ _)); exact BK208.out)) : gb208 ≠ gb234)); have n18_ := Zh.mk ((by rw [hg]; exact Nat.ne_of_gt (ZB (g := gb208) (o := .cells #[.int .i64 t201,.int .i64 t202,.int .i64 t203,.int .i64 t204,.int .i64 t205,.int .i64 t206] 25 (0,0)) (by (with_reducible repeat (first | refine Zc ?_ _ | refine Ze ?_ | refine Zd ?_ _)); exact BK208.out)) : gb234 ≠ gb208)); clear BK190; clear BK191; clear BK192; clear BK200; clear BK208; clear HB; have BK190 := n0_; have BK191 := n1_; have BK192 := n2_; have BK200 := n3_; have BK208 := n4_; have HB := n5_; have BK234 := n6_; have GW234 := n7_; have GE234 := n8_; have NB190_234 := n9_; have NB234_190 := n10_; have NB191_234 := n11_; have NB234_191 := n12_; have NB192_234 := n13_; have NB234_192 := n14_; have NB200_234 := n15_; have NB234_200 := n16_; have NB208_234 := n17_; have NB234_208 := n18_; clear n0_ n1_ n2_ n3_ n4_ n5_ n6_ n7_ n8_ n9_ n10_ n11_ n12_ n13_ n14_ n15_ n16_ n17_ n18_; clear hb hbox hg; have hnb103 := NB234_190.out; have hnc103 := NB190_234.out; have hnb104 := NB234_191.out; have hnc104 := NB191_234.out; have hnb105 := NB234_192.out; have hnc105 := NB192_234.out; have hnb106 := NB234_200.out; have hnc106 := NB200_234.out; have hnb107 := NB234_208.out; have hnc107 := NB208_234.out; have hcz108_0 : w102.cell? ⟨gb234,0,none⟩ = some (.int .i64 0) := (Za BK234.out 0).trans rfl; have hcz108_1 : w102.cell? ⟨gb234,1,none⟩ = some (.int .i64 0) := (Za BK234.out 1).trans rfl; have hcz108_2 : w102.cell? ⟨gb234,2,none⟩ = some (.int .i64 0) := (Za BK234.out 2).trans rfl; have hcz108_3 : w102.cell? ⟨gb234,3,none⟩ = some (.int .i64 0) := (Za BK234.out 3).trans rfl; have hcz108_4 : w102.cell? ⟨gb234,4,none⟩ = some (.int .i64 0) := (Za BK234.out 4).trans rfl; have hcz108_5 : w102.cell? ⟨gb234,5,none⟩ = some (.int .i64 0) := (Za BK234.out 5).trans rfl; have hfz108_0 := Zb BK234.out 0; have hfz108_1 := Zb BK234.out 1; have hfz108_2 := Zb BK234.out 2; have hfz108_3 := Zb BK234.out 3; have hfz108_4 := Zb BK234.out 4; have hfz108_5 := Zb BK234.out 5; have hnb109 := NB200_192.out; have hnc109 := NB192_200.out; have hnb110 := NB200_208.out; have hnc110 := NB208_200.out; have hcz111_0 : w102.cell? ⟨gb200,0,none⟩ = some (.int .i64 t193) := (Za BK200.out 0).trans rfl; have hcz111_1 : w102.cell? ⟨gb200,1,none⟩ = some (.int .i64 t194) := (Za BK200.out 1).trans rfl; have hcz111_2 : w102.cell? ⟨gb200,2,none⟩ = some (.int .i64 t195) := (Za BK200.out 2).trans rfl; have hcz111_3 : w102.cell? ⟨gb200,3,none⟩ = some (.int .i64 t196) := (Za BK200.out 3).trans rfl; have hcz111_4 : w102.cell? ⟨gb200,4,none⟩ = some (.int .i64 t197) := (Za BK200.out 4).trans rfl; have hcz111_5 : w102.cell? ⟨gb200,5,none⟩ = some (.int .i64 t198) := (Za BK200.out 5).trans rfl; have hfz111_0 := Zb BK200.out 0; have hfz111_1 := Zb BK200.out 1; have hfz111_2 := Zb BK200.out 2; have hfz111_3 := Zb BK200.out 3; have hfz111_4 := Zb BK200.out 4; have hfz111_5 := Zb BK200.out 5; have hcz112_0 : w102.cell? ⟨gb190,0,none⟩ = some (.int .i64 a0_0) := (Za BK190.out 0).trans rfl; have hcz112_1 : w102.cell? ⟨gb190,1,none⟩ = some (.int .i64 a0_1) := (Za BK190.out 1).trans rfl; have hcz112_2 : w102.cell? ⟨gb190,2,none⟩ = some (.int .i64 a0_2) := (Za BK190.out 2).trans rfl; have hcz112_3 : w102.cell? ⟨gb190,3,none⟩ = some (.int .i64 a0_3) := (Za BK190.out 3).trans rfl; have hcz112_4 : w102.cell? ⟨gb190,4,none⟩ = some (.int .i64 a0_4) := (Za BK190.out 4).trans rfl; have hcz112_5 : w102.cell? ⟨gb190,5,none⟩ = some (.int .i64 a0_5) := (Za BK190.out 5).trans rfl; have hcz112_6 : w102.cell? ⟨gb190,6,none⟩ = some (.int .i64 a0_6) := (Za BK190.out 6).trans rfl; have hfz112_0 := Zb BK190.out 0; have hfz112_1 := Zb BK190.out 1; have hfz112_2 := Zb BK190.out 2; have hfz112_3 := Zb BK190.out 3; have hfz112_4 := Zb BK190.out 4; have hfz112_5 := Zb BK190.out 5; have hfz112_6 := Zb BK190.out 6) | ((with_reducible refine Z3 (f := 7) rfl ?_); refine ZE (some 125) rfl rfl Try.func7 (by kernel_rfl) rfl #[.agg #[.int .i64 t193,.int .i64 t194,.int .i64 t195,.int .i64 t196,.int .i64 t197,.int .i64 t198],.agg #[.int .i64 a0_0,.int .i64 a0_1,.int .i64 a0_2,.int .i64 a0_3,.int .i64 a0_4,.int .i64 a0_5,.int .i64 a0_6]] rfl (by (try simp only [List.map_toArray,List.map_cons,List.map_nil]); first | done | rfl | (simp only [List.length_drop,List.length_take]; rfl)) ?_; (with_reducible refine (Xa.calls t193 t194 t195 t196 t197 t198 a0_0 a0_1 a0_2 a0_3 a0_4 a0_5 a0_6 t235 t236 _ A89.out).mono ?_); rintro e w113 ⟨rfl,hb⟩; refine ⟨_,rfl,?_⟩; have n0_ := Zh.mk (Zn (g := gb190) (o := .cells #[.int .i64 a0_0,.int .i64 a0_1,.int .i64 a0_2,.int .i64 a0_3,.int .i64 a0_4,.int .i64 a0_5,.int .i64 a0_6] 23 (0,0)) (by (with_reducible repeat (first | refine Zc ?_ _ | refine Ze ?_ | refine Zd ?_ _)); refine Z5 ?_ NB190_234.out _; (with_reducible repeat (first | refine Zc ?_ _ | refine Ze ?_ | refine Zd ?_ _)); refine Z5 ?_ NB190_234.out _; (with_reducible repeat (first | refine Zc ?_ _ | refine Ze ?_ | refine Zd ?_ _)); refine Z5 ?_ NB190_234.out _; (with_reducible repeat (first | refine Zc ?_ _ | refine Ze ?_ | refine Zd ?_ _)); refine Z5 ?_ NB190_234.out _; (with_reducible repeat (first | refine Zc ?_ _ | refine Ze ?_ | refine Zd ?_ _)); refine Z5 ?_ NB190_234.out _; (with_reducible repeat (first | refine Zc ?_ _ | refine Ze ?_ | refine Zd ?_ _)); refine Z5 ?_ NB190_234.out _; (with_reducible repeat (first | refine Zc ?_ _ | refine Ze ?_ | refine Zd ?_ _)); exact BK190.out) hb); have n1_ := Zh.mk (Zn (g := gb191) (o := .cells #[.int .i64 a1_0,.int .i64 a1_1,.int .i64 a1_2,.int .i64 a1_3,.int .i64 a1_4,.int .i64 a1_5,.int .i64 a1_6] 23 (0,0)) (by (with_reducible repeat (first | refine Zc ?_ _ | refine Ze ?_ | refine Zd ?_ _)); refine Z5 ?_ NB191_234.out _; (with_reducible repeat (first | refine Zc ?_ _ | refine Ze ?_ | refine Zd ?_ _)); refine Z5 ?_ NB191_234.out _; (with_reducible repeat (first | refine Zc ?_ _ | refine Ze ?_ | refine Zd ?_ _)); refine Z5 ?_ NB191_234.out _; (with_reducible repeat (first | refine Zc ?_ _ | refine Ze ?_ | refine Zd ?_ _)); refine Z5 ?_ NB191_234.out _; (with_reducible repeat (first | refine Zc ?_ _ | refine Ze ?_ | refine Zd ?_ _)); refine Z5 ?_ NB191_234.out _; (with_reducible repeat (first | refine Zc ?_ _ | refine Ze ?_ | refine Zd ?_ _)); refine Z5 ?_ NB191_234.out _; (with_reducible repeat (first | refine Zc ?_ _ | refine Ze ?_ | refine Zd ?_ _)); exact BK191.out) hb); have n2_ := Zh.mk (Zn (g := gb192) (o := .cells #[.int .i64 a3_0,.int .i64 a3_1,.int .i64 a3_2,.int .i64 a3_3,.int .i64 a3_4,.int .i64 a3_5] 25 (0,0)) (by (with_reducible repeat (first | refine Zc ?_ _ | refine Ze ?_ | refine Zd ?_ _)); refine Z5 ?_ NB192_234.out _; (with_reducible repeat (first | refine Zc ?_ _ | refine Ze ?_ | refine Zd ?_ _)); refine Z5 ?_ NB192_234.out _; (with_reducible repeat (first | refine Zc ?_ _ | refine Ze ?_ | refine Zd ?_ _)); refine Z5 ?_ NB192_234.out _; (with_reducible repeat (first | refine Zc ?_ _ | refine Ze ?_ | refine Zd ?_ _)); refine Z5 ?_ NB192_234.out _; (with_reducible repeat (first | refine Zc ?_ _ | refine Ze ?_ | refine Zd ?_ _)); refine Z5 ?_ NB192_234.out _; (with_reducible repeat (first | refine Zc ?_ _ | refine Ze ?_ | refine Zd ?_ _)); refine Z5 ?_ NB192_234.out _; (with_reducible repeat (first | refine Zc ?_ _ | refine Ze ?_ | refine Zd ?_ _)); exact BK192.out) hb); have n3_ := Zh.mk (Zn (g := gb200) (o := .cells #[.int .i64 t193,.int .i64 t194,.int .i64 t195,.int .i64 t196,.int .i64 t197,.int .i64 t198] 25 (0,0)) (by (with_reducible repeat (first | refine Zc ?_ _ | refine Ze ?_ | refine Zd ?_ _)); refine Z5 ?_ NB200_234.out _; (with_reducible repeat (first | refine Zc ?_ _ | refine Ze ?_ | refine Zd ?_ _)); refine Z5 ?_ NB200_234.out _; (with_reducible repeat (first | refine Zc ?_ _ | refine Ze ?_ | refine Zd ?_ _)); refine Z5 ?_ NB200_234.out _; (with_reducible repeat (first | refine Zc ?_ _ | refine Ze ?_ | refine Zd ?_ _)); refine Z5 ?_ NB200_234.out _; (with_reducible repeat (first | refine Zc ?_ _ | refine Ze ?_ | refine Zd ?_ _)); refine Z5 ?_ NB200_234.out _; (with_reducible repeat (first | refine Zc ?_ _ | refine Ze ?_ | refine Zd ?_ _)); refine Z5 ?_ NB200_234.out _; (with_reducible repeat (first | refine Zc ?_ _ | refine Ze ?_ | refine Zd ?_ _)); exact BK200.out) hb); have n4_ := Zh.mk (Zn (g := gb208) (o := .cells #[.int .i64 t201,.int .i64 t202,.int .i64 t203,.int .i64 t204,.int .i64 t205,.int .i64 t206] 25 (0,0)) (by (with_reducible repeat (first | refine Zc ?_ _ | refine Ze ?_ | refine Zd ?_ _)); refine Z5 ?_ NB208_234.out _; (with_reducible repeat (first | refine Zc ?_ _ | refine Ze ?_ | refine Zd ?_ _)); refine Z5 ?_ NB208_234.out _; (with_reducible repeat (first | refine Zc ?_ _ | refine Ze ?_ | refine Zd ?_ _)); refine Z5 ?_ NB208_234.out _; (with_reducible repeat (first | refine Zc ?_ _ | refine Ze ?_ | refine Zd ?_ _)); refine Z5 ?_ NB208_234.out _; (with_reducible repeat (first | refine Zc ?_ _ | refine Ze ?_ | refine Zd ?_ _)); refine Z5 ?_ NB208_234.out _; (with_reducible repeat (first | refine Zc ?_ _ | refine Ze ?_ | refine Zd ?_ _)); refine Z5 ?_ NB208_234.out _; (with_reducible repeat (first | refine Zc ?_ _ | refine Ze ?_ | refine Zd ?_ _)); exact BK208.out) hb); have n5_ := Zh.mk (Zn (g := gb234) (o := .cells #[.int .i64 t227,.int .i64 t228,.int .i64 t229,.int .i64 t230,.int .i64 t231,.int .i64 t232] 25 (0,0)) (by (with_reducible repeat (first | refine Zc ?_ _ | refine Ze ?_ | refine Zd ?_ _)); refine Z6 (cs := #[.int .i64 t227,.int .i64 t228,.int .i64 t229,.int .i64 t230,.int .i64 t231,.int .i64 0]) ?_ 5 _ rfl; (with_reducible repeat (first | refine Zc ?_ _ | refine Ze ?_ | refine Zd ?_ _)); refine Z6 (cs := #[.int .i64 t227,.int .i64 t228,.int .i64 t229,.int .i64 t230,.int .i64 0,.int .i64 0]) ?_ 4 _ rfl; (with_reducible repeat (first | refine Zc ?_ _ | refine Ze ?_ | refine Zd ?_ _)); refine Z6 (cs := #[.int .i64 t227,.int .i64 t228,.int .i64 t229,.int .i64 0,.int .i64 0,.int .i64 0]) ?_ 3 _ rfl; (with_reducible repeat (first | refine Zc ?_ _ | refine Ze ?_ | refine Zd ?_ _)); refine Z6 (cs := #[.int .i64 t227,.int .i64 t228,.int .i64 0,.int .i64 0,.int .i64 0,.int .i64 0]) ?_ 2 _ rfl; (with_reducible repeat (first | refine Zc ?_ _ | refine Ze ?_ | refine Zd ?_ _)); refine Z6 (cs := #[.int .i64 t227,.int .i64 0,.int .i64 0,.int .i64 0,.int .i64 0,.int .i64 0]) ?_ 1 _ rfl; (with_reducible repeat (first | refine Zc ?_ _ | refine Ze ?_ | refine Zd ?_ _)); refine Z6 (cs := #[.int .i64 0,.int .i64 0,.int .i64 0,.int .i64 0,.int .i64 0,.int .i64 0]) ?_ 0 _ rfl; (with_reducible repeat (first | refine Zc ?_ _ | refine Ze ?_ | refine Zd ?_ _)); exact BK234.out) hb); have n6_ := Zh.mk (Zv (by repeat (first | (with_reducible first | exact HB.out | apply Zk | apply Zi | apply Zj | refine Zf ?_ GE190.out | refine Zf ?_ GE191.out | refine Zf ?_ GE192.out | refine Zf ?_ GE200.out | refine Zf ?_ GE208.out | refine Zf ?_ GE234.out) | exact HB.out)) hb); clear BK190; clear BK191; clear BK192; clear BK200; clear BK208; clear BK234; clear HB; have BK190 := n0_; have BK191 := n1_; have BK192 := n2_; have BK200 := n3_; have BK208 := n4_; have BK234 := n5_; have HB := n6_; clear n0_ n1_ n2_ n3_ n4_ n5_ n6_; (try clear hb); (try clear hb2); (try clear hk); (try clear hi); have hcz114_0 : w113.cell? ⟨gb200,0,none⟩ = some (.int .i64 t193) := (Za BK200.out 0).trans rfl; have hcz114_1 : w113.cell? ⟨gb200,1,none⟩ = some (.int .i64 t194) := (Za BK200.out 1).trans rfl; have hcz114_2 : w113.cell? ⟨gb200,2,none⟩ = some (.int .i64 t195) := (Za BK200.out 2).trans rfl; have hcz114_3 : w113.cell? ⟨gb200,3,none⟩ = some (.int .i64 t196) := (Za BK200.out 3).trans rfl; have hcz114_4 : w113.cell? ⟨gb200,4,none⟩ = some (.int .i64 t197) := (Za BK200.out 4).trans rfl; have hcz114_5 : w113.cell? ⟨gb200,5,none⟩ = some (.int .i64 t198) := (Za BK200.out 5).trans rfl; have hfz114_0 := Zb BK200.out 0; have hfz114_1 := Zb BK200.out 1; have hfz114_2 := Zb BK200.out 2; have hfz114_3 := Zb BK200.out 3; have hfz114_4 := Zb BK200.out 4; have hfz114_5 := Zb BK200.out 5; have hcz115_0 : w113.cell? ⟨gb191,0,none⟩ = some (.int .i64 a1_0) := (Za BK191.out 0).trans rfl; have hcz115_1 : w113.cell? ⟨gb191,1,none⟩ = some (.int .i64 a1_1) := (Za BK191.out 1).trans rfl; have hcz115_2 : w113.cell? ⟨gb191,2,none⟩ = some (.int .i64 a1_2) := (Za BK191.out 2).trans rfl; have hcz115_3 : w113.cell? ⟨gb191,3,none⟩ = some (.int .i64 a1_3) := (Za BK191.out 3).trans rfl; have hcz115_4 : w113.cell? ⟨gb191,4,none⟩ = some (.int .i64 a1_4) := (Za BK191.out 4).trans rfl; have hcz115_5 : w113.cell? ⟨gb191,5,none⟩ = some (.int .i64 a1_5) := (Za BK191.out 5).trans rfl; have hcz115_6 : w113.cell? ⟨gb191,6,none⟩ = some (.int .i64 a1_6) := (Za BK191.out 6).trans rfl; have hfz115_0 := Zb BK191.out 0; have hfz115_1 := Zb BK191.out 1; have hfz115_2 := Zb BK191.out 2; have hfz115_3 := Zb BK191.out 3; have hfz115_4 := Zb BK191.out 4; have hfz115_5 := Zb BK191.out 5; have hfz115_6 := Zb BK191.out 6) | ((with_reducible refine Z3 (f := 7) rfl ?_); refine ZE (some 131) rfl rfl Try.func7 (by kernel_rfl) rfl #[.agg #[.int .i64 t193,.int .i64 t194,.int .i64 t195,.int .i64 t196,.int .i64 t197,.int .i64 t198],.agg #[.int .i64 a1_0,.int .i64 a1_1,.int .i64 a1_2,.int .i64 a1_3,.int .i64 a1_4,.int .i64 a1_5,.int .i64 a1_6]] rfl (by (try simp only [List.map_toArray,List.map_cons,List.map_nil]); first | done | rfl | (simp only [List.length_drop,List.length_take]; rfl)) ?_; (with_reducible refine (Xa.calls t193 t194 t195 t196 t197 t198 a1_0 a1_1 a1_2 a1_3 a1_4 a1_5 a1_6 t237 t238 _ A90.out).mono ?_); rintro e w116 ⟨rfl,hb⟩; refine ⟨_,rfl,?_⟩; have n0_ := Zh.mk (Zn (g := gb190) (o := .cells #[.int .i64 a0_0,.int .i64 a0_1,.int .i64 a0_2,.int .i64 a0_3,.int .i64 a0_4,.int .i64 a0_5,.int .i64 a0_6] 23 (0,0)) (by (with_reducible repeat (first | refine Zc ?_ _ | refine Ze ?_ | refine Zd ?_ _)); exact BK190.out) hb); have n1_ := Zh.mk (Zn (g := gb191) (o := .cells #[.int .i64 a1_0,.int .i64 a1_1,.int .i64 a1_2,.int .i64 a1_3,.int .i64 a1_4,.int .i64 a1_5,.int .i64 a1_6] 23 (0,0)) (by (with_reducible repeat (first | refine Zc ?_ _ | refine Ze ?_ | refine Zd ?_ _)); exact BK191.out) hb); have n2_ := Zh.mk (Zn (g := gb192) (o := .cells #[.int .i64 a3_0,.int .i64 a3_1,.int .i64 a3_2,.int .i64 a3_3,.int .i64 a3_4,.int .i64 a3_5] 25 (0,0)) (by (with_reducible repeat (first | refine Zc ?_ _ | refine Ze ?_ | refine Zd ?_ _)); exact BK192.out) hb); have n3_ := Zh.mk (Zn (g := gb200) (o := .cells #[.int .i64 t193,.int .i64 t194,.int .i64 t195,.int .i64 t196,.int .i64 t197,.int .i64 t198] 25 (0,0)) (by (with_reducible repeat (first | refine Zc ?_ _ | refine Ze ?_ | refine Zd ?_ _)); exact BK200.out) hb); have n4_ := Zh.mk (Zn (g := gb208) (o := .cells #[.int .i64 t201,.int .i64 t202,.int .i64 t203,.int .i64 t204,.int .i64 t205,.int .i64 t206] 25 (0,0)) (by (with_reducible repeat (first | refine Zc ?_ _ | refine Ze ?_ | refine Zd ?_ _)); exact BK208.out) hb); have n5_ := Zh.mk (Zn (g := gb234) (o := .cells #[.int .i64 t227,.int .i64 t228,.int .i64 t229,.int .i64 t230,.int .i64 t231,.int .i64 t232] 25 (0,0)) (by (with_reducible repeat (first | refine Zc ?_ _ | refine Ze ?_ | refine Zd ?_ _)); exact BK234.out) hb); have n6_ := Zh.mk (Zv (by repeat (first | (with_reducible first | exact HB.out | apply Zk | apply Zi | apply Zj | refine Zf ?_ GE190.out | refine Zf ?_ GE191.out | refine Zf ?_ GE192.out | refine Zf ?_ GE200.out | refine Zf ?_ GE208.out | refine Zf ?_ GE234.out) | exact HB.out)) hb); clear BK190; clear BK191; clear BK192; clear BK200; clear BK208; clear BK234; clear HB; have BK190 := n0_; have BK191 := n1_; have BK192 := n2_; have BK200 := n3_; have BK208 := n4_; have BK234 := n5_; have HB := n6_; clear n0_ n1_ n2_ n3_ n4_ n5_ n6_; (try clear hb); (try clear hb2); (try clear hk); (try clear hi)))
      (try simp only [Act.put,Yi,Yj,Yk])
      go_cut [156] (fun v156 wc => ∃ (kq : Nat) (x156_90 : Bool),v156 = .bool x156_90 ∧ Zh (Zg.j1 kq x156_90 t193 t194 t195 t196 t197 t198 = some r) ∧ Zh (kq ≤ kj11) ∧ Zh (wc.heap[gb190]? = some (.cells #[.int .i64 a0_0,.int .i64 a0_1,.int .i64 a0_2,.int .i64 a0_3,.int .i64 a0_4,.int .i64 a0_5,.int .i64 a0_6] 23 (0,0))) ∧ Zh (wc.heap[gb191]? = some (.cells #[.int .i64 a1_0,.int .i64 a1_1,.int .i64 a1_2,.int .i64 a1_3,.int .i64 a1_4,.int .i64 a1_5,.int .i64 a1_6] 23 (0,0))) ∧ Zh (wc.heap[gb192]? = some (.cells #[.int .i64 a3_0,.int .i64 a3_1,.int .i64 a3_2,.int .i64 a3_3,.int .i64 a3_4,.int .i64 a3_5] 25 (0,0))) ∧ Zh (wc.heap[gb200]? = some (.cells #[.int .i64 t193,.int .i64 t194,.int .i64 t195,.int .i64 t196,.int .i64 t197,.int .i64 t198] 25 (0,0))) ∧ Zh (wc.heap[gb208]? = some (.cells #[.int .i64 t201,.int .i64 t202,.int .i64 t203,.int .i64 t204,.int .i64 t205,.int .i64 t206] 25 (0,0))) ∧ Zh (wc.heap[gb234]? = some (.cells #[.int .i64 t227,.int .i64 t228,.int .i64 t229,.int .i64 t230,.int .i64 t231,.int .i64 t232] 25 (0,0))) ∧ Zh (Below w.heap.size w wc))
      case first =>
       have H := HC91.out; clear HC91
       by_cases c117 : (!(t227 == t193) || (!(t228 == t194) || (!(t229 == t195) || (!(t230 == t196) || (!(t231 == t197) || (!(t232 == t198))))))) = true
       · rw [if_pos c117] at H
         have c117b0 : (!(t227 == t193) || (!(t228 == t194) || (!(t229 == t195) || (!(t230 == t196) || (!(t231 == t197) || (!(t232 == t198))))))) = true := c117; clear c117
         (first | rw [c117b0] | (simp only [i64_w,i32_w]; rw [c117b0]) | skip)
         have H' := Zh.mk H; clear H; have hnb118 := NB234_190.out; have hnc118 := NB190_234.out; have hnb119 := NB234_191.out; have hnc119 := NB191_234.out; have hnb120 := NB234_192.out; have hnc120 := NB192_234.out; have hnb121 := NB234_200.out; have hnc121 := NB200_234.out; have hnb122 := NB234_208.out; have hnc122 := NB208_234.out; have hcz123_0 : w116.cell? ⟨gb234,0,none⟩ = some (.int .i64 t227) := (Za BK234.out 0).trans rfl; have hcz123_1 : w116.cell? ⟨gb234,1,none⟩ = some (.int .i64 t228) := (Za BK234.out 1).trans rfl; have hcz123_2 : w116.cell? ⟨gb234,2,none⟩ = some (.int .i64 t229) := (Za BK234.out 2).trans rfl; have hcz123_3 : w116.cell? ⟨gb234,3,none⟩ = some (.int .i64 t230) := (Za BK234.out 3).trans rfl; have hcz123_4 : w116.cell? ⟨gb234,4,none⟩ = some (.int .i64 t231) := (Za BK234.out 4).trans rfl; have hcz123_5 : w116.cell? ⟨gb234,5,none⟩ = some (.int .i64 t232) := (Za BK234.out 5).trans rfl; have hfz123_0 := Zb BK234.out 0; have hfz123_1 := Zb BK234.out 1; have hfz123_2 := Zb BK234.out 2; have hfz123_3 := Zb BK234.out 3; have hfz123_4 := Zb BK234.out 4; have hfz123_5 := Zb BK234.out 5; have hnb124 := NB200_190.out; have hnc124 := NB190_200.out; have hnb125 := NB200_191.out; have hnc125 := NB191_200.out; have hnb126 := NB200_192.out; have hnc126 := NB192_200.out; have hnb127 := NB200_208.out; have hnc127 := NB208_200.out; have hcz128_0 : w116.cell? ⟨gb200,0,none⟩ = some (.int .i64 t193) := (Za BK200.out 0).trans rfl; have hcz128_1 : w116.cell? ⟨gb200,1,none⟩ = some (.int .i64 t194) := (Za BK200.out 1).trans rfl; have hcz128_2 : w116.cell? ⟨gb200,2,none⟩ = some (.int .i64 t195) := (Za BK200.out 2).trans rfl; have hcz128_3 : w116.cell? ⟨gb200,3,none⟩ = some (.int .i64 t196) := (Za BK200.out 3).trans rfl; have hcz128_4 : w116.cell? ⟨gb200,4,none⟩ = some (.int .i64 t197) := (Za BK200.out 4).trans rfl; have hcz128_5 : w116.cell? ⟨gb200,5,none⟩ = some (.int .i64 t198) := (Za BK200.out 5).trans rfl; have hfz128_0 := Zb BK200.out 0; have hfz128_1 := Zb BK200.out 1; have hfz128_2 := Zb BK200.out 2; have hfz128_3 := Zb BK200.out 3; have hfz128_4 := Zb BK200.out 4; have hfz128_5 := Zb BK200.out 5
         go_wp2
         go_meet
         case rel => exact ⟨_,(true),(by first | rfl | (simp; done) | (simp [*]; done)),H',⟨by have := HJ11.out; first | omega | exact Nat.le_refl _⟩,⟨by (with_reducible repeat (first | refine Zc ?_ _ | refine Ze ?_ | refine Zd ?_ _)); exact BK190.out⟩,⟨by (with_reducible repeat (first | refine Zc ?_ _ | refine Ze ?_ | refine Zd ?_ _)); exact BK191.out⟩,⟨by (with_reducible repeat (first | refine Zc ?_ _ | refine Ze ?_ | refine Zd ?_ _)); exact BK192.out⟩,⟨by (with_reducible repeat (first | refine Zc ?_ _ | refine Ze ?_ | refine Zd ?_ _)); exact BK200.out⟩,⟨by (with_reducible repeat (first | refine Zc ?_ _ | refine Ze ?_ | refine Zd ?_ _)); exact BK208.out⟩,⟨by (with_reducible repeat (first | refine Zc ?_ _ | refine Ze ?_ | refine Zd ?_ _)); exact BK234.out⟩,⟨by repeat (first | (with_reducible first | exact HB.out | apply Zk | apply Zi | apply Zj | refine Zf ?_ GE190.out | refine Zf ?_ GE191.out | refine Zf ?_ GE192.out | refine Zf ?_ GE200.out | refine Zf ?_ GE208.out | refine Zf ?_ GE234.out) | exact HB.out)⟩⟩
       · rw [if_neg c117] at H
         have c117b0 : (!(t227 == t193) || (!(t228 == t194) || (!(t229 == t195) || (!(t230 == t196) || (!(t231 == t197) || (!(t232 == t198))))))) = false := by simpa using c117
         clear c117
         (first | rw [c117b0] | (simp only [i64_w,i32_w]; rw [c117b0]) | skip)
         by_cases c129 : t233 = 0
         · rw [if_pos c129] at H
           have c129b0 : (t233 == 0) = true := beq_iff_eq.mpr c129; have c129b1 : (t233 != 0) = false := bne_eq_false_iff_eq.mpr c129; clear c129
           by_cases c130 : t235 = true
           · subst c130
             have H1 : (if t237 = true then (if t236 = 0 then (Zg.j1 kj11 (t238 != 0) t193 t194 t195 t196 t197 t198) else (Zg.j1 kj11 true t193 t194 t195 t196 t197 t198)) else (Zg.j1 kj11 true t193 t194 t195 t196 t197 t198)) = some r := by rw [if_pos rfl] at H; exact H
             clear H; have H := H1; clear H1
             by_cases c131 : t237 = true
             · subst c131
               have H1 : (if t236 = 0 then (Zg.j1 kj11 (t238 != 0) t193 t194 t195 t196 t197 t198) else (Zg.j1 kj11 true t193 t194 t195 t196 t197 t198)) = some r := by rw [if_pos rfl] at H; exact H
               clear H; have H := H1; clear H1
               by_cases c132 : t236 = 0
               · rw [if_pos c132] at H
                 have c132b0 : (t236 == 0) = true := beq_iff_eq.mpr c132; have c132b1 : (t236 != 0) = false := bne_eq_false_iff_eq.mpr c132; clear c132; have H' := Zh.mk H; clear H; have hnb133 := NB234_190.out; have hnc133 := NB190_234.out; have hnb134 := NB234_191.out; have hnc134 := NB191_234.out; have hnb135 := NB234_192.out; have hnc135 := NB192_234.out; have hnb136 := NB234_200.out; have hnc136 := NB200_234.out; have hnb137 := NB234_208.out; have hnc137 := NB208_234.out; have hcz138_0 : w116.cell? ⟨gb234,0,none⟩ = some (.int .i64 t227) := (Za BK234.out 0).trans rfl; have hcz138_1 : w116.cell? ⟨gb234,1,none⟩ = some (.int .i64 t228) := (Za BK234.out 1).trans rfl; have hcz138_2 : w116.cell? ⟨gb234,2,none⟩ = some (.int .i64 t229) := (Za BK234.out 2).trans rfl; have hcz138_3 : w116.cell? ⟨gb234,3,none⟩ = some (.int .i64 t230) := (Za BK234.out 3).trans rfl; have hcz138_4 : w116.cell? ⟨gb234,4,none⟩ = some (.int .i64 t231) := (Za BK234.out 4).trans rfl; have hcz138_5 : w116.cell? ⟨gb234,5,none⟩ = some (.int .i64 t232) := (Za BK234.out 5).trans rfl; have hfz138_0 := Zb BK234.out 0; have hfz138_1 := Zb BK234.out 1; have hfz138_2 := Zb BK234.out 2; have hfz138_3 := Zb BK234.out 3; have hfz138_4 := Zb BK234.out 4; have hfz138_5 := Zb BK234.out 5; have hnb139 := NB200_190.out; have hnc139 := NB190_200.out; have hnb140 := NB200_191.out; have hnc140 := NB191_200.out; have hnb141 := NB200_192.out; have hnc141 := NB192_200.out; have hnb142 := NB200_208.out; have hnc142 := NB208_200.out; have hcz143_0 : w116.cell? ⟨gb200,0,none⟩ = some (.int .i64 t193) := (Za BK200.out 0).trans rfl; have hcz143_1 : w116.cell? ⟨gb200,1,none⟩ = some (.int .i64 t194) := (Za BK200.out 1).trans rfl; have hcz143_2 : w116.cell? ⟨gb200,2,none⟩ = some (.int .i64 t195) := (Za BK200.out 2).trans rfl; have hcz143_3 : w116.cell? ⟨gb200,3,none⟩ = some (.int .i64 t196) := (Za BK200.out 3).trans rfl; have hcz143_4 : w116.cell? ⟨gb200,4,none⟩ = some (.int .i64 t197) := (Za BK200.out 4).trans rfl; have hcz143_5 : w116.cell? ⟨gb200,5,none⟩ = some (.int .i64 t198) := (Za BK200.out 5).trans rfl; have hfz143_0 := Zb BK200.out 0; have hfz143_1 := Zb BK200.out 1; have hfz143_2 := Zb BK200.out 2; have hfz143_3 := Zb BK200.out 3; have hfz143_4 := Zb BK200.out 4; have hfz143_5 := Zb BK200.out 5
                 go_wp2
                 go_meet
                 case rel => exact ⟨_,((t238 != 0)),(by first | rfl | (simp; done) | (simp [*]; done)),H',⟨by have := HJ11.out; first | omega | exact Nat.le_refl _⟩,⟨by (with_reducible repeat (first | refine Zc ?_ _ | refine Ze ?_ | refine Zd ?_ _)); exact BK190.out⟩,⟨by (with_reducible repeat (first | refine Zc ?_ _ | refine Ze ?_ | refine Zd ?_ _)); exact BK191.out⟩,⟨by (with_reducible repeat (first | refine Zc ?_ _ | refine Ze ?_ | refine Zd ?_ _)); exact BK192.out⟩,⟨by (with_reducible repeat (first | refine Zc ?_ _ | refine Ze ?_ | refine Zd ?_ _)); exact BK200.out⟩,⟨by (with_reducible repeat (first | refine Zc ?_ _ | refine Ze ?_ | refine Zd ?_ _)); exact BK208.out⟩,⟨by (with_reducible repeat (first | refine Zc ?_ _ | refine Ze ?_ | refine Zd ?_ _)); exact BK234.out⟩,⟨by repeat (first | (with_reducible first | exact HB.out | apply Zk | apply Zi | apply Zj | refine Zf ?_ GE190.out | refine Zf ?_ GE191.out | refine Zf ?_ GE192.out | refine Zf ?_ GE200.out | refine Zf ?_ GE208.out | refine Zf ?_ GE234.out) | exact HB.out)⟩⟩
               · rw [if_neg c132] at H
                 have c132b0 : (t236 == 0) = false := beq_eq_false_iff_ne.mpr c132; have c132b1 : (t236 != 0) = true := bne_iff_ne.mpr c132; have H' := Zh.mk H; clear H; have hnb144 := NB234_190.out; have hnc144 := NB190_234.out; have hnb145 := NB234_191.out; have hnc145 := NB191_234.out; have hnb146 := NB234_192.out; have hnc146 := NB192_234.out; have hnb147 := NB234_200.out; have hnc147 := NB200_234.out; have hnb148 := NB234_208.out; have hnc148 := NB208_234.out; have hcz149_0 : w116.cell? ⟨gb234,0,none⟩ = some (.int .i64 t227) := (Za BK234.out 0).trans rfl; have hcz149_1 : w116.cell? ⟨gb234,1,none⟩ = some (.int .i64 t228) := (Za BK234.out 1).trans rfl; have hcz149_2 : w116.cell? ⟨gb234,2,none⟩ = some (.int .i64 t229) := (Za BK234.out 2).trans rfl; have hcz149_3 : w116.cell? ⟨gb234,3,none⟩ = some (.int .i64 t230) := (Za BK234.out 3).trans rfl; have hcz149_4 : w116.cell? ⟨gb234,4,none⟩ = some (.int .i64 t231) := (Za BK234.out 4).trans rfl; have hcz149_5 : w116.cell? ⟨gb234,5,none⟩ = some (.int .i64 t232) := (Za BK234.out 5).trans rfl; have hfz149_0 := Zb BK234.out 0; have hfz149_1 := Zb BK234.out 1; have hfz149_2 := Zb BK234.out 2; have hfz149_3 := Zb BK234.out 3; have hfz149_4 := Zb BK234.out 4; have hfz149_5 := Zb BK234.out 5; have hnb150 := NB200_190.out; have hnc150 := NB190_200.out; have hnb151 := NB200_191.out; have hnc151 := NB191_200.out; have hnb152 := NB200_192.out; have hnc152 := NB192_200.out; have hnb153 := NB200_208.out; have hnc153 := NB208_200.out; have hcz154_0 : w116.cell? ⟨gb200,0,none⟩ = some (.int .i64 t193) := (Za BK200.out 0).trans rfl; have hcz154_1 : w116.cell? ⟨gb200,1,none⟩ = some (.int .i64 t194) := (Za BK200.out 1).trans rfl; have hcz154_2 : w116.cell? ⟨gb200,2,none⟩ = some (.int .i64 t195) := (Za BK200.out 2).trans rfl; have hcz154_3 : w116.cell? ⟨gb200,3,none⟩ = some (.int .i64 t196) := (Za BK200.out 3).trans rfl; have hcz154_4 : w116.cell? ⟨gb200,4,none⟩ = some (.int .i64 t197) := (Za BK200.out 4).trans rfl; have hcz154_5 : w116.cell? ⟨gb200,5,none⟩ = some (.int .i64 t198) := (Za BK200.out 5).trans rfl; have hfz154_0 := Zb BK200.out 0; have hfz154_1 := Zb BK200.out 1; have hfz154_2 := Zb BK200.out 2; have hfz154_3 := Zb BK200.out 3; have hfz154_4 := Zb BK200.out 4; have hfz154_5 := Zb BK200.out 5
                 go_wp2
                 go_meet
                 case rel => exact ⟨_,(true),(by first | rfl | (simp; done) | (simp [*]; done)),H',⟨by have := HJ11.out; first | omega | exact Nat.le_refl _⟩,⟨by (with_reducible repeat (first | refine Zc ?_ _ | refine Ze ?_ | refine Zd ?_ _)); exact BK190.out⟩,⟨by (with_reducible repeat (first | refine Zc ?_ _ | refine Ze ?_ | refine Zd ?_ _)); exact BK191.out⟩,⟨by (with_reducible repeat (first | refine Zc ?_ _ | refine Ze ?_ | refine Zd ?_ _)); exact BK192.out⟩,⟨by (with_reducible repeat (first | refine Zc ?_ _ | refine Ze ?_ | refine Zd ?_ _)); exact BK200.out⟩,⟨by (with_reducible repeat (first | refine Zc ?_ _ | refine Ze ?_ | refine Zd ?_ _)); exact BK208.out⟩,⟨by (with_reducible repeat (first | refine Zc ?_ _ | refine Ze ?_ | refine Zd ?_ _)); exact BK234.out⟩,⟨by repeat (first | (with_reducible first | exact HB.out | apply Zk | apply Zi | apply Zj | refine Zf ?_ GE190.out | refine Zf ?_ GE191.out | refine Zf ?_ GE192.out | refine Zf ?_ GE200.out | refine Zf ?_ GE208.out | refine Zf ?_ GE234.out) | exact HB.out)⟩⟩
             · replace c131 := Bool.eq_false_iff.mpr c131
               subst c131
               have H1 : (Zg.j1 kj11 true t193 t194 t195 t196 t197 t198) = some r := by rw [if_neg (show ¬ (false = true) by decide)] at H; exact H
               clear H; have H := H1; clear H1; have H' := Zh.mk H; clear H; have hnb155 := NB234_190.out; have hnc155 := NB190_234.out; have hnb156 := NB234_191.out; have hnc156 := NB191_234.out; have hnb157 := NB234_192.out; have hnc157 := NB192_234.out; have hnb158 := NB234_200.out; have hnc158 := NB200_234.out; have hnb159 := NB234_208.out; have hnc159 := NB208_234.out; have hcz160_0 : w116.cell? ⟨gb234,0,none⟩ = some (.int .i64 t227) := (Za BK234.out 0).trans rfl; have hcz160_1 : w116.cell? ⟨gb234,1,none⟩ = some (.int .i64 t228) := (Za BK234.out 1).trans rfl; have hcz160_2 : w116.cell? ⟨gb234,2,none⟩ = some (.int .i64 t229) := (Za BK234.out 2).trans rfl; have hcz160_3 : w116.cell? ⟨gb234,3,none⟩ = some (.int .i64 t230) := (Za BK234.out 3).trans rfl; have hcz160_4 : w116.cell? ⟨gb234,4,none⟩ = some (.int .i64 t231) := (Za BK234.out 4).trans rfl; have hcz160_5 : w116.cell? ⟨gb234,5,none⟩ = some (.int .i64 t232) := (Za BK234.out 5).trans rfl; have hfz160_0 := Zb BK234.out 0; have hfz160_1 := Zb BK234.out 1; have hfz160_2 := Zb BK234.out 2; have hfz160_3 := Zb BK234.out 3; have hfz160_4 := Zb BK234.out 4; have hfz160_5 := Zb BK234.out 5; have hnb161 := NB200_190.out; have hnc161 := NB190_200.out; have hnb162 := NB200_191.out; have hnc162 := NB191_200.out; have hnb163 := NB200_192.out; have hnc163 := NB192_200.out; have hnb164 := NB200_208.out; have hnc164 := NB208_200.out; have hcz165_0 : w116.cell? ⟨gb200,0,none⟩ = some (.int .i64 t193) := (Za BK200.out 0).trans rfl; have hcz165_1 : w116.cell? ⟨gb200,1,none⟩ = some (.int .i64 t194) := (Za BK200.out 1).trans rfl; have hcz165_2 : w116.cell? ⟨gb200,2,none⟩ = some (.int .i64 t195) := (Za BK200.out 2).trans rfl; have hcz165_3 : w116.cell? ⟨gb200,3,none⟩ = some (.int .i64 t196) := (Za BK200.out 3).trans rfl; have hcz165_4 : w116.cell? ⟨gb200,4,none⟩ = some (.int .i64 t197) := (Za BK200.out 4).trans rfl; have hcz165_5 : w116.cell? ⟨gb200,5,none⟩ = some (.int .i64 t198) := (Za BK200.out 5).trans rfl; have hfz165_0 := Zb BK200.out 0; have hfz165_1 := Zb BK200.out 1; have hfz165_2 := Zb BK200.out 2; have hfz165_3 := Zb BK200.out 3; have hfz165_4 := Zb BK200.out 4; have hfz165_5 := Zb BK200.out 5
               go_wp2
               go_meet
               case rel => exact ⟨_,(true),(by first | rfl | (simp; done) | (simp [*]; done)),H',⟨by have := HJ11.out; first | omega | exact Nat.le_refl _⟩,⟨by (with_reducible repeat (first | refine Zc ?_ _ | refine Ze ?_ | refine Zd ?_ _)); exact BK190.out⟩,⟨by (with_reducible repeat (first | refine Zc ?_ _ | refine Ze ?_ | refine Zd ?_ _)); exact BK191.out⟩,⟨by (with_reducible repeat (first | refine Zc ?_ _ | refine Ze ?_ | refine Zd ?_ _)); exact BK192.out⟩,⟨by (with_reducible repeat (first | refine Zc ?_ _ | refine Ze ?_ | refine Zd ?_ _)); exact BK200.out⟩,⟨by (with_reducible repeat (first | refine Zc ?_ _ | refine Ze ?_ | refine Zd ?_ _)); exact BK208.out⟩,⟨by (with_reducible repeat (first | refine Zc ?_ _ | refine Ze ?_ | refine Zd ?_ _)); exact BK234.out⟩,⟨by repeat (first | (with_reducible first | exact HB.out | apply Zk | apply Zi | apply Zj | refine Zf ?_ GE190.out | refine Zf ?_ GE191.out | refine Zf ?_ GE192.out | refine Zf ?_ GE200.out | refine Zf ?_ GE208.out | refine Zf ?_ GE234.out) | exact HB.out)⟩⟩
           · replace c130 := Bool.eq_false_iff.mpr c130
             subst c130
             have H1 : (Zg.j1 kj11 true t193 t194 t195 t196 t197 t198) = some r := by rw [if_neg (show ¬ (false = true) by decide)] at H; exact H
             clear H; have H := H1; clear H1; have H' := Zh.mk H; clear H; have hnb166 := NB234_190.out; have hnc166 := NB190_234.out; have hnb167 := NB234_191.out; have hnc167 := NB191_234.out; have hnb168 := NB234_192.out; have hnc168 := NB192_234.out; have hnb169 := NB234_200.out; have hnc169 := NB200_234.out; have hnb170 := NB234_208.out; have hnc170 := NB208_234.out; have hcz171_0 : w116.cell? ⟨gb234,0,none⟩ = some (.int .i64 t227) := (Za BK234.out 0).trans rfl; have hcz171_1 : w116.cell? ⟨gb234,1,none⟩ = some (.int .i64 t228) := (Za BK234.out 1).trans rfl; have hcz171_2 : w116.cell? ⟨gb234,2,none⟩ = some (.int .i64 t229) := (Za BK234.out 2).trans rfl; have hcz171_3 : w116.cell? ⟨gb234,3,none⟩ = some (.int .i64 t230) := (Za BK234.out 3).trans rfl; have hcz171_4 : w116.cell? ⟨gb234,4,none⟩ = some (.int .i64 t231) := (Za BK234.out 4).trans rfl; have hcz171_5 : w116.cell? ⟨gb234,5,none⟩ = some (.int .i64 t232) := (Za BK234.out 5).trans rfl; have hfz171_0 := Zb BK234.out 0; have hfz171_1 := Zb BK234.out 1; have hfz171_2 := Zb BK234.out 2; have hfz171_3 := Zb BK234.out 3; have hfz171_4 := Zb BK234.out 4; have hfz171_5 := Zb BK234.out 5; have hnb172 := NB200_190.out; have hnc172 := NB190_200.out; have hnb173 := NB200_191.out; have hnc173 := NB191_200.out; have hnb174 := NB200_192.out; have hnc174 := NB192_200.out; have hnb175 := NB200_208.out; have hnc175 := NB208_200.out; have hcz176_0 : w116.cell? ⟨gb200,0,none⟩ = some (.int .i64 t193) := (Za BK200.out 0).trans rfl; have hcz176_1 : w116.cell? ⟨gb200,1,none⟩ = some (.int .i64 t194) := (Za BK200.out 1).trans rfl; have hcz176_2 : w116.cell? ⟨gb200,2,none⟩ = some (.int .i64 t195) := (Za BK200.out 2).trans rfl; have hcz176_3 : w116.cell? ⟨gb200,3,none⟩ = some (.int .i64 t196) := (Za BK200.out 3).trans rfl; have hcz176_4 : w116.cell? ⟨gb200,4,none⟩ = some (.int .i64 t197) := (Za BK200.out 4).trans rfl; have hcz176_5 : w116.cell? ⟨gb200,5,none⟩ = some (.int .i64 t198) := (Za BK200.out 5).trans rfl; have hfz176_0 := Zb BK200.out 0; have hfz176_1 := Zb BK200.out 1; have hfz176_2 := Zb BK200.out 2; have hfz176_3 := Zb BK200.out 3; have hfz176_4 := Zb BK200.out 4; have hfz176_5 := Zb BK200.out 5
             go_wp2
             go_meet
             case rel => exact ⟨_,(true),(by first | rfl | (simp; done) | (simp [*]; done)),H',⟨by have := HJ11.out; first | omega | exact Nat.le_refl _⟩,⟨by (with_reducible repeat (first | refine Zc ?_ _ | refine Ze ?_ | refine Zd ?_ _)); exact BK190.out⟩,⟨by (with_reducible repeat (first | refine Zc ?_ _ | refine Ze ?_ | refine Zd ?_ _)); exact BK191.out⟩,⟨by (with_reducible repeat (first | refine Zc ?_ _ | refine Ze ?_ | refine Zd ?_ _)); exact BK192.out⟩,⟨by (with_reducible repeat (first | refine Zc ?_ _ | refine Ze ?_ | refine Zd ?_ _)); exact BK200.out⟩,⟨by (with_reducible repeat (first | refine Zc ?_ _ | refine Ze ?_ | refine Zd ?_ _)); exact BK208.out⟩,⟨by (with_reducible repeat (first | refine Zc ?_ _ | refine Ze ?_ | refine Zd ?_ _)); exact BK234.out⟩,⟨by repeat (first | (with_reducible first | exact HB.out | apply Zk | apply Zi | apply Zj | refine Zf ?_ GE190.out | refine Zf ?_ GE191.out | refine Zf ?_ GE192.out | refine Zf ?_ GE200.out | refine Zf ?_ GE208.out | refine Zf ?_ GE234.out) | exact HB.out)⟩⟩
         · rw [if_neg c129] at H
           have c129b0 : (t233 == 0) = false := beq_eq_false_iff_ne.mpr c129; have c129b1 : (t233 != 0) = true := bne_iff_ne.mpr c129; have H' := Zh.mk H; clear H; have hnb177 := NB234_190.out; have hnc177 := NB190_234.out; have hnb178 := NB234_191.out; have hnc178 := NB191_234.out; have hnb179 := NB234_192.out; have hnc179 := NB192_234.out; have hnb180 := NB234_200.out; have hnc180 := NB200_234.out; have hnb181 := NB234_208.out; have hnc181 := NB208_234.out; have hcz182_0 : w116.cell? ⟨gb234,0,none⟩ = some (.int .i64 t227) := (Za BK234.out 0).trans rfl; have hcz182_1 : w116.cell? ⟨gb234,1,none⟩ = some (.int .i64 t228) := (Za BK234.out 1).trans rfl; have hcz182_2 : w116.cell? ⟨gb234,2,none⟩ = some (.int .i64 t229) := (Za BK234.out 2).trans rfl; have hcz182_3 : w116.cell? ⟨gb234,3,none⟩ = some (.int .i64 t230) := (Za BK234.out 3).trans rfl; have hcz182_4 : w116.cell? ⟨gb234,4,none⟩ = some (.int .i64 t231) := (Za BK234.out 4).trans rfl; have hcz182_5 : w116.cell? ⟨gb234,5,none⟩ = some (.int .i64 t232) := (Za BK234.out 5).trans rfl; have hfz182_0 := Zb BK234.out 0; have hfz182_1 := Zb BK234.out 1; have hfz182_2 := Zb BK234.out 2; have hfz182_3 := Zb BK234.out 3; have hfz182_4 := Zb BK234.out 4; have hfz182_5 := Zb BK234.out 5; have hnb183 := NB200_190.out; have hnc183 := NB190_200.out; have hnb184 := NB200_191.out; have hnc184 := NB191_200.out; have hnb185 := NB200_192.out; have hnc185 := NB192_200.out; have hnb186 := NB200_208.out; have hnc186 := NB208_200.out; have hcz187_0 : w116.cell? ⟨gb200,0,none⟩ = some (.int .i64 t193) := (Za BK200.out 0).trans rfl; have hcz187_1 : w116.cell? ⟨gb200,1,none⟩ = some (.int .i64 t194) := (Za BK200.out 1).trans rfl; have hcz187_2 : w116.cell? ⟨gb200,2,none⟩ = some (.int .i64 t195) := (Za BK200.out 2).trans rfl; have hcz187_3 : w116.cell? ⟨gb200,3,none⟩ = some (.int .i64 t196) := (Za BK200.out 3).trans rfl; have hcz187_4 : w116.cell? ⟨gb200,4,none⟩ = some (.int .i64 t197) := (Za BK200.out 4).trans rfl; have hcz187_5 : w116.cell? ⟨gb200,5,none⟩ = some (.int .i64 t198) := (Za BK200.out 5).trans rfl; have hfz187_0 := Zb BK200.out 0; have hfz187_1 := Zb BK200.out 1; have hfz187_2 := Zb BK200.out 2; have hfz187_3 := Zb BK200.out 3; have hfz187_4 := Zb BK200.out 4; have hfz187_5 := Zb BK200.out 5
           go_wp2
           go_meet
           case rel => exact ⟨_,(true),(by first | rfl | (simp; done) | (simp [*]; done)),H',⟨by have := HJ11.out; first | omega | exact Nat.le_refl _⟩,⟨by (with_reducible repeat (first | refine Zc ?_ _ | refine Ze ?_ | refine Zd ?_ _)); exact BK190.out⟩,⟨by (with_reducible repeat (first | refine Zc ?_ _ | refine Ze ?_ | refine Zd ?_ _)); exact BK191.out⟩,⟨by (with_reducible repeat (first | refine Zc ?_ _ | refine Ze ?_ | refine Zd ?_ _)); exact BK192.out⟩,⟨by (with_reducible repeat (first | refine Zc ?_ _ | refine Ze ?_ | refine Zd ?_ _)); exact BK200.out⟩,⟨by (with_reducible repeat (first | refine Zc ?_ _ | refine Ze ?_ | refine Zd ?_ _)); exact BK208.out⟩,⟨by (with_reducible repeat (first | refine Zc ?_ _ | refine Ze ?_ | refine Zd ?_ _)); exact BK234.out⟩,⟨by repeat (first | (with_reducible first | exact HB.out | apply Zk | apply Zi | apply Zj | refine Zf ?_ GE190.out | refine Zf ?_ GE191.out | refine Zf ?_ GE192.out | refine Zf ?_ GE200.out | refine Zf ?_ GE208.out | refine Zf ?_ GE234.out) | exact HB.out)⟩⟩
      case rest =>
       clear HC91
       (try clear c1); (try clear p2); (try clear c5); (try clear c7); (try clear c8); (try clear c9); (try clear c10); (try clear c11); (try clear c12); (try clear c13); (try clear c14); (try clear c15); (try clear c16); (try clear c17); (try clear c18); (try clear c56); (try clear c56b0); (try clear c56b1); (try clear c86); (try clear c87); (try clear c87b0); (try clear c87b1); (try clear c92); (try clear c93); (try clear c94); (try clear c95); (try clear c97); (try clear c98); (try clear c99); (try clear c103); (try clear c104); (try clear c105); (try clear c106); (try clear c107); (try clear c109); (try clear c110); (try clear c117); (try clear c117b0); (try clear c118); (try clear c119); (try clear c120); (try clear c121); (try clear c122); (try clear c124); (try clear c125); (try clear c126); (try clear c127); (try clear c129); (try clear c129b0); (try clear c129b1); (try clear c130); (try clear c131); (try clear c132); (try clear c132b0); (try clear c132b1); (try clear c133); (try clear c134); (try clear c135); (try clear c136); (try clear c137); (try clear c139); (try clear c140); (try clear c141); (try clear c142); (try clear c144); (try clear c145); (try clear c146); (try clear c147); (try clear c148); (try clear c150); (try clear c151); (try clear c152); (try clear c153); (try clear c155); (try clear c156); (try clear c157); (try clear c158); (try clear c159); (try clear c161); (try clear c162); (try clear c163); (try clear c164); (try clear c166); (try clear c167); (try clear c168); (try clear c169); (try clear c170); (try clear c172); (try clear c173); (try clear c174); (try clear c175); (try clear c177); (try clear c178); (try clear c179); (try clear c180); (try clear c181); (try clear c183); (try clear c184); (try clear c185); (try clear c186); (try clear hcz100_0); (try clear hcz100_1); (try clear hcz100_2); (try clear hcz100_3); (try clear hcz100_4); (try clear hcz100_5); (try clear hcz100_6); (try clear hcz108_0); (try clear hcz108_1); (try clear hcz108_2); (try clear hcz108_3); (try clear hcz108_4); (try clear hcz108_5); (try clear hcz111_0); (try clear hcz111_1); (try clear hcz111_2); (try clear hcz111_3); (try clear hcz111_4); (try clear hcz111_5); (try clear hcz112_0); (try clear hcz112_1); (try clear hcz112_2); (try clear hcz112_3); (try clear hcz112_4); (try clear hcz112_5); (try clear hcz112_6); (try clear hcz114_0); (try clear hcz114_1); (try clear hcz114_2); (try clear hcz114_3); (try clear hcz114_4); (try clear hcz114_5); (try clear hcz115_0); (try clear hcz115_1); (try clear hcz115_2); (try clear hcz115_3); (try clear hcz115_4); (try clear hcz115_5); (try clear hcz115_6); (try clear hcz123_0); (try clear hcz123_1); (try clear hcz123_2); (try clear hcz123_3); (try clear hcz123_4); (try clear hcz123_5); (try clear hcz128_0); (try clear hcz128_1); (try clear hcz128_2); (try clear hcz128_3); (try clear hcz128_4); (try clear hcz128_5); (try clear hcz138_0); (try clear hcz138_1); (try clear hcz138_2); (try clear hcz138_3); (try clear hcz138_4); (try clear hcz138_5); (try clear hcz143_0); (try clear hcz143_1); (try clear hcz143_2); (try clear hcz143_3); (try clear hcz143_4); (try clear hcz143_5); (try clear hcz149_0); (try clear hcz149_1); (try clear hcz149_2); (try clear hcz149_3); (try clear hcz149_4); (try clear hcz149_5); (try clear hcz154_0); (try clear hcz154_1); (try clear hcz154_2); (try clear hcz154_3); (try clear hcz154_4); (try clear hcz154_5); (try clear hcz160_0); (try clear hcz160_1); (try clear hcz160_2); (try clear hcz160_3); (try clear hcz160_4); (try clear hcz160_5); (try clear hcz165_0); (try clear hcz165_1); (try clear hcz165_2); (try clear hcz165_3); (try clear hcz165_4); (try clear hcz165_5); (try clear hcz171_0); (try clear hcz171_1); (try clear hcz171_2); (try clear hcz171_3); (try clear hcz171_4); (try clear hcz171_5); (try clear hcz176_0); (try clear hcz176_1); (try clear hcz176_2); (try clear hcz176_3); (try clear hcz176_4); (try clear hcz176_5); (try clear hcz182_0); (try clear hcz182_1); (try clear hcz182_2); (try clear hcz182_3); (try clear hcz182_4); (try clear hcz182_5); (try clear hcz187_0); (try clear hcz187_1); (try clear hcz187_2); (try clear hcz187_3); (try clear hcz187_4); (try clear hcz187_5); (try clear hcz96_0); (try clear hcz96_1); (try clear hcz96_2); (try clear hcz96_3); (try clear hcz96_4); (try clear hcz96_5); (try clear hcz96_6); (try clear hfz100_0); (try clear hfz100_1); (try clear hfz100_2); (try clear hfz100_3); (try clear hfz100_4); (try clear hfz100_5); (try clear hfz100_6); (try clear hfz108_0); (try clear hfz108_1); (try clear hfz108_2); (try clear hfz108_3); (try clear hfz108_4); (try clear hfz108_5); (try clear hfz111_0); (try clear hfz111_1); (try clear hfz111_2); (try clear hfz111_3); (try clear hfz111_4); (try clear hfz111_5); (try clear hfz112_0); (try clear hfz112_1); (try clear hfz112_2); (try clear hfz112_3); (try clear hfz112_4); (try clear hfz112_5); (try clear hfz112_6); (try clear hfz114_0); (try clear hfz114_1); (try clear hfz114_2); (try clear hfz114_3); (try clear hfz114_4); (try clear hfz114_5); (try clear hfz115_0); (try clear hfz115_1); (try clear hfz115_2); (try clear hfz115_3); (try clear hfz115_4); (try clear hfz115_5); (try clear hfz115_6); (try clear hfz123_0); (try clear hfz123_1); (try clear hfz123_2); (try clear hfz123_3); (try clear hfz123_4); (try clear hfz123_5); (try clear hfz128_0); (try clear hfz128_1); (try clear hfz128_2); (try clear hfz128_3); (try clear hfz128_4); (try clear hfz128_5); (try clear hfz138_0); (try clear hfz138_1); (try clear hfz138_2); (try clear hfz138_3); (try clear hfz138_4); (try clear hfz138_5); (try clear hfz143_0); (try clear hfz143_1); (try clear hfz143_2); (try clear hfz143_3); (try clear hfz143_4); (try clear hfz143_5); (try clear hfz149_0); (try clear hfz149_1); (try clear hfz149_2); (try clear hfz149_3); (try clear hfz149_4); (try clear hfz149_5); (try clear hfz154_0); (try clear hfz154_1); (try clear hfz154_2); (try clear hfz154_3); (try clear hfz154_4); (try clear hfz154_5); (try clear hfz160_0); (try clear hfz160_1); (try clear hfz160_2); (try clear hfz160_3); (try clear hfz160_4); (try clear hfz160_5); (try clear hfz165_0); (try clear hfz165_1); (try clear hfz165_2); (try clear hfz165_3); (try clear hfz165_4); (try clear hfz165_5); (try clear hfz171_0); (try clear hfz171_1); (try clear hfz171_2); (try clear hfz171_3); (try clear hfz171_4); (try clear hfz171_5); (try clear hfz176_0); (try clear hfz176_1); (try clear hfz176_2); (try clear hfz176_3); (try clear hfz176_4); (try clear hfz176_5); (try clear hfz182_0); (try clear hfz182_1); (try clear hfz182_2); (try clear hfz182_3); (try clear hfz182_4); (try clear hfz182_5); (try clear hfz187_0); (try clear hfz187_1); (try clear hfz187_2); (try clear hfz187_3); (try clear hfz187_4); (try clear hfz187_5); (try clear hfz96_0); (try clear hfz96_1); (try clear hfz96_2); (try clear hfz96_3); (try clear hfz96_4); (try clear hfz96_5); (try clear hfz96_6); (try clear p2)
       obtain ⟨kq,x156_90,rfl,HA,HJ90,BK190,BK191,BK192,BK200,BK208,BK234,HB⟩ := hcut
       cases kq with
       | zero => exact absurd HA.out (by simp [Zg.j1])
       | succ kj90 =>
        have H := HA.out; clear HA; simp only [Zg.j1] at H
        by_cases c188 : x156_90 = true
        · subst c188
          have H1 : (some false) = some r := by rw [if_pos rfl] at H; exact H
          clear H; have H := H1; clear H1; obtain rfl := Option.some.inj H
          go_wp2
          go_ret; exact ⟨by first | rfl | (simp [Zw,Zx] <;> rfl) | (simp [*,Zw,Zx] <;> rfl),by repeat (first | (with_reducible first | exact HB.out | apply Zk | apply Zi | apply Zj | refine Zf ?_ GE190.out | refine Zf ?_ GE191.out | refine Zf ?_ GE192.out | refine Zf ?_ GE200.out | refine Zf ?_ GE208.out | refine Zf ?_ GE234.out) | exact HB.out)⟩
        · replace c188 := Bool.eq_false_iff.mpr c188
          subst c188
          have H1 : ((ZR.f t193 t194 t195 t196 t197 t198 0).bind fun bt239 => (Zg.l0 kj90 bt239.1 bt239.2.1 bt239.2.2 0 0 t193 t194 t195 t196 t197 t198)) = some r := by rw [if_neg (show ¬ (false = true) by decide)] at H; exact H
          clear H; have H := H1; clear H1; replace H := Option.bind_eq_some_iff.mp H; obtain ⟨⟨t239,t242,t243⟩,A1890,H⟩ := H; replace H : (Zg.l0 kj90 t239 t242 t243 0 0 t193 t194 t195 t196 t197 t198) = some r := H; have A189 := Zh.mk A1890; clear A1890; have H' := Zh.mk H; clear H; have hnb190 := NB200_190.out; have hnc190 := NB190_200.out; have hnb191 := NB200_191.out; have hnc191 := NB191_200.out; have hnb192 := NB200_192.out; have hnc192 := NB192_200.out; have hnb193 := NB200_208.out; have hnc193 := NB208_200.out; have hnb194 := NB200_234.out; have hnc194 := NB234_200.out; have hcz195_0 : wc.cell? ⟨gb200,0,none⟩ = some (.int .i64 t193) := (Za BK200.out 0).trans rfl; have hcz195_1 : wc.cell? ⟨gb200,1,none⟩ = some (.int .i64 t194) := (Za BK200.out 1).trans rfl; have hcz195_2 : wc.cell? ⟨gb200,2,none⟩ = some (.int .i64 t195) := (Za BK200.out 2).trans rfl; have hcz195_3 : wc.cell? ⟨gb200,3,none⟩ = some (.int .i64 t196) := (Za BK200.out 3).trans rfl; have hcz195_4 : wc.cell? ⟨gb200,4,none⟩ = some (.int .i64 t197) := (Za BK200.out 4).trans rfl; have hcz195_5 : wc.cell? ⟨gb200,5,none⟩ = some (.int .i64 t198) := (Za BK200.out 5).trans rfl; have hfz195_0 := Zb BK200.out 0; have hfz195_1 := Zb BK200.out 1; have hfz195_2 := Zb BK200.out 2; have hfz195_3 := Zb BK200.out 3; have hfz195_4 := Zb BK200.out 4; have hfz195_5 := Zb BK200.out 5
          go_wp2_with (first | ((with_reducible refine Z3 (f := 9) rfl ?_); refine ZE (some 159) rfl rfl Try.func9 (by kernel_rfl) rfl #[.agg #[.int .i64 t193,.int .i64 t194,.int .i64 t195,.int .i64 t196,.int .i64 t197,.int .i64 t198],.int .i64 0] rfl (by (try simp only [List.map_toArray,List.map_cons,List.map_nil]); first | done | rfl | (simp only [List.length_drop,List.length_take]; rfl)) ?_; (with_reducible refine (ZR.calls t193 t194 t195 t196 t197 t198 0 t239 t242 t243 _ A189.out).mono ?_); rintro e w196 ⟨v240,rfl,ho0,hb⟩; refine ⟨_,rfl,?_⟩; have n0_ := Zh.mk (Kd.Xw ho0 (Zt (by repeat (first | (with_reducible first | exact HB.out | apply Zk | apply Zi | apply Zj | refine Zf ?_ GE190.out | refine Zf ?_ GE191.out | refine Zf ?_ GE192.out | refine Zf ?_ GE200.out | refine Zf ?_ GE208.out | refine Zf ?_ GE234.out) | exact HB.out)))); have n1_ := Zh.mk (Zn (g := gb190) (o := .cells #[.int .i64 a0_0,.int .i64 a0_1,.int .i64 a0_2,.int .i64 a0_3,.int .i64 a0_4,.int .i64 a0_5,.int .i64 a0_6] 23 (0,0)) (by (with_reducible repeat (first | refine Zc ?_ _ | refine Ze ?_ | refine Zd ?_ _)); exact BK190.out) hb); have n2_ := Zh.mk (Zn (g := gb191) (o := .cells #[.int .i64 a1_0,.int .i64 a1_1,.int .i64 a1_2,.int .i64 a1_3,.int .i64 a1_4,.int .i64 a1_5,.int .i64 a1_6] 23 (0,0)) (by (with_reducible repeat (first | refine Zc ?_ _ | refine Ze ?_ | refine Zd ?_ _)); exact BK191.out) hb); have n3_ := Zh.mk (Zn (g := gb192) (o := .cells #[.int .i64 a3_0,.int .i64 a3_1,.int .i64 a3_2,.int .i64 a3_3,.int .i64 a3_4,.int .i64 a3_5] 25 (0,0)) (by (with_reducible repeat (first | refine Zc ?_ _ | refine Ze ?_ | refine Zd ?_ _)); exact BK192.out) hb); have n4_ := Zh.mk (Zn (g := gb200) (o := .cells #[.int .i64 t193,.int .i64 t194,.int .i64 t195,.int .i64 t196,.int .i64 t197,.int .i64 t198] 25 (0,0)) (by (with_reducible repeat (first | refine Zc ?_ _ | refine Ze ?_ | refine Zd ?_ _)); exact BK200.out) hb); have n5_ := Zh.mk (Zn (g := gb208) (o := .cells #[.int .i64 t201,.int .i64 t202,.int .i64 t203,.int .i64 t204,.int .i64 t205,.int .i64 t206] 25 (0,0)) (by (with_reducible repeat (first | refine Zc ?_ _ | refine Ze ?_ | refine Zd ?_ _)); exact BK208.out) hb); have n6_ := Zh.mk (Zn (g := gb234) (o := .cells #[.int .i64 t227,.int .i64 t228,.int .i64 t229,.int .i64 t230,.int .i64 t231,.int .i64 t232] 25 (0,0)) (by (with_reducible repeat (first | refine Zc ?_ _ | refine Ze ?_ | refine Zd ?_ _)); exact BK234.out) hb); have n7_ := Zh.mk (Zv (by repeat (first | (with_reducible first | exact HB.out | apply Zk | apply Zi | apply Zj | refine Zf ?_ GE190.out | refine Zf ?_ GE191.out | refine Zf ?_ GE192.out | refine Zf ?_ GE200.out | refine Zf ?_ GE208.out | refine Zf ?_ GE234.out) | exact HB.out)) hb); clear BK190; clear BK191; clear BK192; clear BK200; clear BK208; clear BK234; clear HB; have HO241 := n0_; have BK190 := n1_; have BK191 := n2_; have BK192 := n3_; have BK200 := n4_; have BK208 := n5_; have BK234 := n6_; have HB := n7_; clear n0_ n1_ n2_ n3_ n4_ n5_ n6_ n7_; (try clear hb); (try clear hb2); (try clear hk); (try clear hi); (try clear ho0)))
          go_loopg [28,29] kj90 (fun kq v28 v29 w' => ∃ (x28_3 : Int) (x29_3 : Int),v28 = .int .i64 x28_3 ∧ v29 = .int .i64 x29_3 ∧ Zh (Zg.l0 kq t239 t242 t243 x28_3 x29_3 t193 t194 t195 t196 t197 t198 = some r) ∧ Zh (kq ≤ kj90) ∧ Zh (Kd.S (Kd.slice 3 (Kd.int .i64)) 37 w' w.heap.size (fun _ => True) v240 t239) ∧ Zh (w'.heap[gb190]? = some (.cells #[.int .i64 a0_0,.int .i64 a0_1,.int .i64 a0_2,.int .i64 a0_3,.int .i64 a0_4,.int .i64 a0_5,.int .i64 a0_6] 23 (0,0))) ∧ Zh (w'.heap[gb191]? = some (.cells #[.int .i64 a1_0,.int .i64 a1_1,.int .i64 a1_2,.int .i64 a1_3,.int .i64 a1_4,.int .i64 a1_5,.int .i64 a1_6] 23 (0,0))) ∧ Zh (w'.heap[gb192]? = some (.cells #[.int .i64 a3_0,.int .i64 a3_1,.int .i64 a3_2,.int .i64 a3_3,.int .i64 a3_4,.int .i64 a3_5] 25 (0,0))) ∧ Zh (w'.heap[gb200]? = some (.cells #[.int .i64 t193,.int .i64 t194,.int .i64 t195,.int .i64 t196,.int .i64 t197,.int .i64 t198] 25 (0,0))) ∧ Zh (w'.heap[gb208]? = some (.cells #[.int .i64 t201,.int .i64 t202,.int .i64 t203,.int .i64 t204,.int .i64 t205,.int .i64 t206] 25 (0,0))) ∧ Zh (w'.heap[gb234]? = some (.cells #[.int .i64 t227,.int .i64 t228,.int .i64 t229,.int .i64 t230,.int .i64 t231,.int .i64 t232] 25 (0,0))) ∧ Zh (Below w.heap.size w w'))
          case atStart => exact ⟨(0),(0),(by first | rfl | (simp; done) | (simp [*]; done)),(by first | rfl | (simp; done) | (simp [*]; done)),H',⟨Nat.le_refl _⟩,⟨by (with_reducible repeat (first | apply Kd.ZH | apply Kd.ZI | apply Kd.ZG)); exact HO241.out⟩,⟨by (with_reducible repeat (first | refine Zc ?_ _ | refine Ze ?_ | refine Zd ?_ _)); exact BK190.out⟩,⟨by (with_reducible repeat (first | refine Zc ?_ _ | refine Ze ?_ | refine Zd ?_ _)); exact BK191.out⟩,⟨by (with_reducible repeat (first | refine Zc ?_ _ | refine Ze ?_ | refine Zd ?_ _)); exact BK192.out⟩,⟨by (with_reducible repeat (first | refine Zc ?_ _ | refine Ze ?_ | refine Zd ?_ _)); exact BK200.out⟩,⟨by (with_reducible repeat (first | refine Zc ?_ _ | refine Ze ?_ | refine Zd ?_ _)); exact BK208.out⟩,⟨by (with_reducible repeat (first | refine Zc ?_ _ | refine Ze ?_ | refine Zd ?_ _)); exact BK234.out⟩,⟨by repeat (first | (with_reducible first | exact HB.out | apply Zk | apply Zi | apply Zj | refine Zf ?_ GE190.out | refine Zf ?_ GE191.out | refine Zf ?_ GE192.out | refine Zf ?_ GE200.out | refine Zf ?_ GE208.out | refine Zf ?_ GE234.out) | exact HB.out)⟩⟩
          case round =>
           clear H'
           (try clear c1); (try clear p2); (try clear c5); (try clear c7); (try clear c8); (try clear c9); (try clear c10); (try clear c11); (try clear c12); (try clear c13); (try clear c14); (try clear c15); (try clear c16); (try clear c17); (try clear c18); (try clear c19); (try clear c56); (try clear c56b0); (try clear c56b1); (try clear c86); (try clear c87); (try clear c87b0); (try clear c87b1); (try clear c92); (try clear c93); (try clear c94); (try clear c95); (try clear c97); (try clear c98); (try clear c99); (try clear c103); (try clear c104); (try clear c105); (try clear c106); (try clear c107); (try clear c109); (try clear c110); (try clear c117); (try clear c117b0); (try clear c118); (try clear c119); (try clear c120); (try clear c121); (try clear c122); (try clear c124); (try clear c125); (try clear c126); (try clear c127); (try clear c129); (try clear c129b0); (try clear c129b1); (try clear c130); (try clear c131); (try clear c132); (try clear c132b0); (try clear c132b1); (try clear c133); (try clear c134); (try clear c135); (try clear c136); (try clear c137); (try clear c139); (try clear c140); (try clear c141); (try clear c142); (try clear c144); (try clear c145); (try clear c146); (try clear c147); (try clear c148); (try clear c150); (try clear c151); (try clear c152); (try clear c153); (try clear c155); (try clear c156); (try clear c157); (try clear c158); (try clear c159); (try clear c161); (try clear c162); (try clear c163); (try clear c164); (try clear c166); (try clear c167); (try clear c168); (try clear c169); (try clear c170); (try clear c172); (try clear c173); (try clear c174); (try clear c175); (try clear c177); (try clear c178); (try clear c179); (try clear c180); (try clear c181); (try clear c183); (try clear c184); (try clear c185); (try clear c186); (try clear c188); (try clear c190); (try clear c191); (try clear c192); (try clear c193); (try clear c194); (try clear hcz100_0); (try clear hcz100_1); (try clear hcz100_2); (try clear hcz100_3); (try clear hcz100_4); (try clear hcz100_5); (try clear hcz100_6); (try clear hcz108_0); (try clear hcz108_1); (try clear hcz108_2); (try clear hcz108_3); (try clear hcz108_4); (try clear hcz108_5); (try clear hcz111_0); (try clear hcz111_1); (try clear hcz111_2); (try clear hcz111_3); (try clear hcz111_4); (try clear hcz111_5); (try clear hcz112_0); (try clear hcz112_1); (try clear hcz112_2); (try clear hcz112_3); (try clear hcz112_4); (try clear hcz112_5); (try clear hcz112_6); (try clear hcz114_0); (try clear hcz114_1); (try clear hcz114_2); (try clear hcz114_3); (try clear hcz114_4); (try clear hcz114_5); (try clear hcz115_0); (try clear hcz115_1); (try clear hcz115_2); (try clear hcz115_3); (try clear hcz115_4); (try clear hcz115_5); (try clear hcz115_6); (try clear hcz123_0); (try clear hcz123_1); (try clear hcz123_2); (try clear hcz123_3); (try clear hcz123_4); (try clear hcz123_5); (try clear hcz128_0); (try clear hcz128_1); (try clear hcz128_2); (try clear hcz128_3); (try clear hcz128_4); (try clear hcz128_5); (try clear hcz138_0); (try clear hcz138_1); (try clear hcz138_2); (try clear hcz138_3); (try clear hcz138_4); (try clear hcz138_5); (try clear hcz143_0); (try clear hcz143_1); (try clear hcz143_2); (try clear hcz143_3); (try clear hcz143_4); (try clear hcz143_5); (try clear hcz149_0); (try clear hcz149_1); (try clear hcz149_2); (try clear hcz149_3); (try clear hcz149_4); (try clear hcz149_5); (try clear hcz154_0); (try clear hcz154_1); (try clear hcz154_2); (try clear hcz154_3); (try clear hcz154_4); (try clear hcz154_5); (try clear hcz160_0); (try clear hcz160_1); (try clear hcz160_2); (try clear hcz160_3); (try clear hcz160_4); (try clear hcz160_5); (try clear hcz165_0); (try clear hcz165_1); (try clear hcz165_2); (try clear hcz165_3); (try clear hcz165_4); (try clear hcz165_5); (try clear hcz171_0); (try clear hcz171_1); (try clear hcz171_2); (try clear hcz171_3); (try clear hcz171_4); (try clear hcz171_5); (try clear hcz176_0); (try clear hcz176_1); (try clear hcz176_2); (try clear hcz176_3); (try clear hcz176_4); (try clear hcz176_5); (try clear hcz182_0); (try clear hcz182_1); (try clear hcz182_2); (try clear hcz182_3); (try clear hcz182_4); (try clear hcz182_5); (try clear hcz187_0); (try clear hcz187_1); (try clear hcz187_2); (try clear hcz187_3); (try clear hcz187_4); (try clear hcz187_5); (try clear hcz195_0); (try clear hcz195_1); (try clear hcz195_2); (try clear hcz195_3); (try clear hcz195_4); (try clear hcz195_5); (try clear hcz96_0); (try clear hcz96_1); (try clear hcz96_2); (try clear hcz96_3); (try clear hcz96_4); (try clear hcz96_5); (try clear hcz96_6); (try clear hfz100_0); (try clear hfz100_1); (try clear hfz100_2); (try clear hfz100_3); (try clear hfz100_4); (try clear hfz100_5); (try clear hfz100_6); (try clear hfz108_0); (try clear hfz108_1); (try clear hfz108_2); (try clear hfz108_3); (try clear hfz108_4); (try clear hfz108_5); (try clear hfz111_0); (try clear hfz111_1); (try clear hfz111_2); (try clear hfz111_3); (try clear hfz111_4); (try clear hfz111_5); (try clear hfz112_0); (try clear hfz112_1); (try clear hfz112_2); (try clear hfz112_3); (try clear hfz112_4); (try clear hfz112_5); (try clear hfz112_6); (try clear hfz114_0); (try clear hfz114_1); (try clear hfz114_2); (try clear hfz114_3); (try clear hfz114_4); (try clear hfz114_5); (try clear hfz115_0); (try clear hfz115_1); (try clear hfz115_2); (try clear hfz115_3); (try clear hfz115_4); (try clear hfz115_5); (try clear hfz115_6); (try clear hfz123_0); (try clear hfz123_1); (try clear hfz123_2); (try clear hfz123_3); (try clear hfz123_4); (try clear hfz123_5); (try clear hfz128_0); (try clear hfz128_1); (try clear hfz128_2); (try clear hfz128_3); (try clear hfz128_4); (try clear hfz128_5); (try clear hfz138_0); (try clear hfz138_1); (try clear hfz138_2); (try clear hfz138_3); (try clear hfz138_4); (try clear hfz138_5); (try clear hfz143_0); (try clear hfz143_1); (try clear hfz143_2); (try clear hfz143_3); (try clear hfz143_4); (try clear hfz143_5); (try clear hfz149_0); (try clear hfz149_1); (try clear hfz149_2); (try clear hfz149_3); (try clear hfz149_4); (try clear hfz149_5); (try clear hfz154_0); (try clear hfz154_1); (try clear hfz154_2); (try clear hfz154_3); (try clear hfz154_4); (try clear hfz154_5); (try clear hfz160_0); (try clear hfz160_1); (try clear hfz160_2); (try clear hfz160_3); (try clear hfz160_4); (try clear hfz160_5); (try clear hfz165_0); (try clear hfz165_1); (try clear hfz165_2); (try clear hfz165_3); (try clear hfz165_4); (try clear hfz165_5); (try clear hfz171_0); (try clear hfz171_1); (try clear hfz171_2); (try clear hfz171_3); (try clear hfz171_4); (try clear hfz171_5); (try clear hfz176_0); (try clear hfz176_1); (try clear hfz176_2); (try clear hfz176_3); (try clear hfz176_4); (try clear hfz176_5); (try clear hfz182_0); (try clear hfz182_1); (try clear hfz182_2); (try clear hfz182_3); (try clear hfz182_4); (try clear hfz182_5); (try clear hfz187_0); (try clear hfz187_1); (try clear hfz187_2); (try clear hfz187_3); (try clear hfz187_4); (try clear hfz187_5); (try clear hfz195_0); (try clear hfz195_1); (try clear hfz195_2); (try clear hfz195_3); (try clear hfz195_4); (try clear hfz195_5); (try clear hfz96_0); (try clear hfz96_1); (try clear hfz96_2); (try clear hfz96_3); (try clear hfz96_4); (try clear hfz96_5); (try clear hfz96_6); (try clear p2)
           obtain ⟨x28_3,x29_3,rfl,rfl,HA,HK3,HO_19,BK190,BK191,BK192,BK200,BK208,BK234,HB⟩ := hrel
           cases gk with
           | zero => exact absurd HA.out (by simp [Zg.l0])
           | succ k3 =>
            have H := HA.out; clear HA; simp only [Zg.l0] at H
            by_cases c197 : x29_3 < (t239.length : Int)
            · rw [if_pos c197] at H
              have c197b0 : decide (x29_3 < (t239.length : Int)) = true := decide_eq_true c197; clear c197; have H' := Zh.mk H; clear H; obtain ⟨Ao198,co198,eo198⟩ := Kd.Xm HO_19.out; subst eo198
              go_wp2
              go_loopg [28,30] k3 (fun kq v28 v30 w' => ∃ (x28_4 : Int) (x30_4 : Int),v28 = .int .i64 x28_4 ∧ v30 = .int .i64 x30_4 ∧ Zh (Zg.l1 kq t239 t242 t243 x28_4 x29_3 x30_4 t193 t194 t195 t196 t197 t198 = some r) ∧ Zh (kq ≤ k3) ∧ Zh (Kd.S (Kd.slice 3 (Kd.int .i64)) 37 w' w.heap.size (fun _ => True) (.slice Ao198 t239.length co198) t239) ∧ Zh (w'.heap[gb190]? = some (.cells #[.int .i64 a0_0,.int .i64 a0_1,.int .i64 a0_2,.int .i64 a0_3,.int .i64 a0_4,.int .i64 a0_5,.int .i64 a0_6] 23 (0,0))) ∧ Zh (w'.heap[gb191]? = some (.cells #[.int .i64 a1_0,.int .i64 a1_1,.int .i64 a1_2,.int .i64 a1_3,.int .i64 a1_4,.int .i64 a1_5,.int .i64 a1_6] 23 (0,0))) ∧ Zh (w'.heap[gb192]? = some (.cells #[.int .i64 a3_0,.int .i64 a3_1,.int .i64 a3_2,.int .i64 a3_3,.int .i64 a3_4,.int .i64 a3_5] 25 (0,0))) ∧ Zh (w'.heap[gb200]? = some (.cells #[.int .i64 t193,.int .i64 t194,.int .i64 t195,.int .i64 t196,.int .i64 t197,.int .i64 t198] 25 (0,0))) ∧ Zh (w'.heap[gb208]? = some (.cells #[.int .i64 t201,.int .i64 t202,.int .i64 t203,.int .i64 t204,.int .i64 t205,.int .i64 t206] 25 (0,0))) ∧ Zh (w'.heap[gb234]? = some (.cells #[.int .i64 t227,.int .i64 t228,.int .i64 t229,.int .i64 t230,.int .i64 t231,.int .i64 t232] 25 (0,0))) ∧ Zh (Below w.heap.size w w'))
              case atStart => exact ⟨(x28_3),(0),(by first | rfl | (simp; done) | (simp [*]; done)),(by first | rfl | (simp; done) | (simp [*]; done)),H',⟨Nat.le_refl _⟩,⟨by (with_reducible repeat (first | apply Kd.ZH | apply Kd.ZI | apply Kd.ZG)); exact HO_19.out⟩,⟨by (with_reducible repeat (first | refine Zc ?_ _ | refine Ze ?_ | refine Zd ?_ _)); exact BK190.out⟩,⟨by (with_reducible repeat (first | refine Zc ?_ _ | refine Ze ?_ | refine Zd ?_ _)); exact BK191.out⟩,⟨by (with_reducible repeat (first | refine Zc ?_ _ | refine Ze ?_ | refine Zd ?_ _)); exact BK192.out⟩,⟨by (with_reducible repeat (first | refine Zc ?_ _ | refine Ze ?_ | refine Zd ?_ _)); exact BK200.out⟩,⟨by (with_reducible repeat (first | refine Zc ?_ _ | refine Ze ?_ | refine Zd ?_ _)); exact BK208.out⟩,⟨by (with_reducible repeat (first | refine Zc ?_ _ | refine Ze ?_ | refine Zd ?_ _)); exact BK234.out⟩,⟨by repeat (first | (with_reducible first | exact HB.out | apply Zk | apply Zi | apply Zj | refine Zf ?_ GE190.out | refine Zf ?_ GE191.out | refine Zf ?_ GE192.out | refine Zf ?_ GE200.out | refine Zf ?_ GE208.out | refine Zf ?_ GE234.out) | exact HB.out)⟩⟩
              case round =>
               clear H'
               (try clear c1); (try clear p2); (try clear c5); (try clear c7); (try clear c8); (try clear c9); (try clear c10); (try clear c11); (try clear c12); (try clear c13); (try clear c14); (try clear c15); (try clear c16); (try clear c17); (try clear c18); (try clear c19); (try clear c56); (try clear c56b0); (try clear c56b1); (try clear c86); (try clear c87); (try clear c87b0); (try clear c87b1); (try clear c92); (try clear c93); (try clear c94); (try clear c95); (try clear c97); (try clear c98); (try clear c99); (try clear c103); (try clear c104); (try clear c105); (try clear c106); (try clear c107); (try clear c109); (try clear c110); (try clear c117); (try clear c117b0); (try clear c118); (try clear c119); (try clear c120); (try clear c121); (try clear c122); (try clear c124); (try clear c125); (try clear c126); (try clear c127); (try clear c129); (try clear c129b0); (try clear c129b1); (try clear c130); (try clear c131); (try clear c132); (try clear c132b0); (try clear c132b1); (try clear c133); (try clear c134); (try clear c135); (try clear c136); (try clear c137); (try clear c139); (try clear c140); (try clear c141); (try clear c142); (try clear c144); (try clear c145); (try clear c146); (try clear c147); (try clear c148); (try clear c150); (try clear c151); (try clear c152); (try clear c153); (try clear c155); (try clear c156); (try clear c157); (try clear c158); (try clear c159); (try clear c161); (try clear c162); (try clear c163); (try clear c164); (try clear c166); (try clear c167); (try clear c168); (try clear c169); (try clear c170); (try clear c172); (try clear c173); (try clear c174); (try clear c175); (try clear c177); (try clear c178); (try clear c179); (try clear c180); (try clear c181); (try clear c183); (try clear c184); (try clear c185); (try clear c186); (try clear c188); (try clear c190); (try clear c191); (try clear c192); (try clear c193); (try clear c194); (try clear c197); (try clear c197b0); (try clear hcz100_0); (try clear hcz100_1); (try clear hcz100_2); (try clear hcz100_3); (try clear hcz100_4); (try clear hcz100_5); (try clear hcz100_6); (try clear hcz108_0); (try clear hcz108_1); (try clear hcz108_2); (try clear hcz108_3); (try clear hcz108_4); (try clear hcz108_5); (try clear hcz111_0); (try clear hcz111_1); (try clear hcz111_2); (try clear hcz111_3); (try clear hcz111_4); (try clear hcz111_5); (try clear hcz112_0); (try clear hcz112_1); (try clear hcz112_2); (try clear hcz112_3); (try clear hcz112_4); (try clear hcz112_5); (try clear hcz112_6); (try clear hcz114_0); (try clear hcz114_1); (try clear hcz114_2); (try clear hcz114_3); (try clear hcz114_4); (try clear hcz114_5); (try clear hcz115_0); (try clear hcz115_1); (try clear hcz115_2); (try clear hcz115_3); (try clear hcz115_4); (try clear hcz115_5); (try clear hcz115_6); (try clear hcz123_0); (try clear hcz123_1); (try clear hcz123_2); (try clear hcz123_3); (try clear hcz123_4); (try clear hcz123_5); (try clear hcz128_0); (try clear hcz128_1); (try clear hcz128_2); (try clear hcz128_3); (try clear hcz128_4); (try clear hcz128_5); (try clear hcz138_0); (try clear hcz138_1); (try clear hcz138_2); (try clear hcz138_3); (try clear hcz138_4); (try clear hcz138_5); (try clear hcz143_0); (try clear hcz143_1); (try clear hcz143_2); (try clear hcz143_3); (try clear hcz143_4); (try clear hcz143_5); (try clear hcz149_0); (try clear hcz149_1); (try clear hcz149_2); (try clear hcz149_3); (try clear hcz149_4); (try clear hcz149_5); (try clear hcz154_0); (try clear hcz154_1); (try clear hcz154_2); (try clear hcz154_3); (try clear hcz154_4); (try clear hcz154_5); (try clear hcz160_0); (try clear hcz160_1); (try clear hcz160_2); (try clear hcz160_3); (try clear hcz160_4); (try clear hcz160_5); (try clear hcz165_0); (try clear hcz165_1); (try clear hcz165_2); (try clear hcz165_3); (try clear hcz165_4); (try clear hcz165_5); (try clear hcz171_0); (try clear hcz171_1); (try clear hcz171_2); (try clear hcz171_3); (try clear hcz171_4); (try clear hcz171_5); (try clear hcz176_0); (try clear hcz176_1); (try clear hcz176_2); (try clear hcz176_3); (try clear hcz176_4); (try clear hcz176_5); (try clear hcz182_0); (try clear hcz182_1); (try clear hcz182_2); (try clear hcz182_3); (try clear hcz182_4); (try clear hcz182_5); (try clear hcz187_0); (try clear hcz187_1); (try clear hcz187_2); (try clear hcz187_3); (try clear hcz187_4); (try clear hcz187_5); (try clear hcz195_0); (try clear hcz195_1); (try clear hcz195_2); (try clear hcz195_3); (try clear hcz195_4); (try clear hcz195_5); (try clear hcz96_0); (try clear hcz96_1); (try clear hcz96_2); (try clear hcz96_3); (try clear hcz96_4); (try clear hcz96_5); (try clear hcz96_6); (try clear hfz100_0); (try clear hfz100_1); (try clear hfz100_2); (try clear hfz100_3); (try clear hfz100_4); (try clear hfz100_5); (try clear hfz100_6); (try clear hfz108_0); (try clear hfz108_1); (try clear hfz108_2); (try clear hfz108_3); (try clear hfz108_4); (try clear hfz108_5); (try clear hfz111_0); (try clear hfz111_1); (try clear hfz111_2); (try clear hfz111_3); (try clear hfz111_4); (try clear hfz111_5); (try clear hfz112_0); (try clear hfz112_1); (try clear hfz112_2); (try clear hfz112_3); (try clear hfz112_4); (try clear hfz112_5); (try clear hfz112_6); (try clear hfz114_0); (try clear hfz114_1); (try clear hfz114_2); (try clear hfz114_3); (try clear hfz114_4); (try clear hfz114_5); (try clear hfz115_0); (try clear hfz115_1); (try clear hfz115_2); (try clear hfz115_3); (try clear hfz115_4); (try clear hfz115_5); (try clear hfz115_6); (try clear hfz123_0); (try clear hfz123_1); (try clear hfz123_2); (try clear hfz123_3); (try clear hfz123_4); (try clear hfz123_5); (try clear hfz128_0); (try clear hfz128_1); (try clear hfz128_2); (try clear hfz128_3); (try clear hfz128_4); (try clear hfz128_5); (try clear hfz138_0); (try clear hfz138_1); (try clear hfz138_2); (try clear hfz138_3); (try clear hfz138_4); (try clear hfz138_5); (try clear hfz143_0); (try clear hfz143_1); (try clear hfz143_2); (try clear hfz143_3); (try clear hfz143_4); (try clear hfz143_5); (try clear hfz149_0); (try clear hfz149_1); (try clear hfz149_2); (try clear hfz149_3); (try clear hfz149_4); (try clear hfz149_5); (try clear hfz154_0); (try clear hfz154_1); (try clear hfz154_2); (try clear hfz154_3); (try clear hfz154_4); (try clear hfz154_5); (try clear hfz160_0); (try clear hfz160_1); (try clear hfz160_2); (try clear hfz160_3); (try clear hfz160_4); (try clear hfz160_5); (try clear hfz165_0); (try clear hfz165_1); (try clear hfz165_2); (try clear hfz165_3); (try clear hfz165_4); (try clear hfz165_5); (try clear hfz171_0); (try clear hfz171_1); (try clear hfz171_2); (try clear hfz171_3); (try clear hfz171_4); (try clear hfz171_5); (try clear hfz176_0); (try clear hfz176_1); (try clear hfz176_2); (try clear hfz176_3); (try clear hfz176_4); (try clear hfz176_5); (try clear hfz182_0); (try clear hfz182_1); (try clear hfz182_2); (try clear hfz182_3); (try clear hfz182_4); (try clear hfz182_5); (try clear hfz187_0); (try clear hfz187_1); (try clear hfz187_2); (try clear hfz187_3); (try clear hfz187_4); (try clear hfz187_5); (try clear hfz195_0); (try clear hfz195_1); (try clear hfz195_2); (try clear hfz195_3); (try clear hfz195_4); (try clear hfz195_5); (try clear hfz96_0); (try clear hfz96_1); (try clear hfz96_2); (try clear hfz96_3); (try clear hfz96_4); (try clear hfz96_5); (try clear hfz96_6); (try clear p2)
               obtain ⟨x28_4,x30_4,rfl,rfl,HA,HK4,HO_19,BK190,BK191,BK192,BK200,BK208,BK234,HB⟩ := hrel
               cases gk with
               | zero => exact absurd HA.out (by simp [Zg.l1])
               | succ k4 =>
                have H := HA.out; clear HA; simp only [Zg.l1] at H
                by_cases c199 : 0 ≤ x29_3
                · rw [if_pos c199] at H
                  have c199b0 : decide (0 ≤ x29_3) = true := decide_eq_true c199; clear c199
                  by_cases c200 : x29_3 < (t239.length : Int)
                  · rw [if_pos c200] at H
                    have c200b0 : decide (x29_3 < (t239.length : Int)) = true := decide_eq_true c200; clear c200
                    by_cases c201 : x30_4 < ((rd_L4 t239 x29_3).length : Int)
                    · rw [if_pos c201] at H
                      have c201b0 : decide (x30_4 < ((rd_L4 t239 x29_3).length : Int)) = true := decide_eq_true c201; clear c201
                      by_cases c202 : 0 ≤ x30_4
                      · rw [if_pos c202] at H
                        have c202b0 : decide (0 ≤ x30_4) = true := decide_eq_true c202; clear c202
                        by_cases c203 : (rd (rd_L4 t239 x29_3) x30_4) < x28_4
                        · rw [if_pos c203] at H
                          have c203b0 : decide ((rd (rd_L4 t239 x29_3) x30_4) < x28_4) = true := decide_eq_true c203; clear c203; obtain rfl := Option.some.inj H; have p245 : 0 ≤ (x29_3 : Int) := of_decide_eq_true (by first | (with_reducible assumption) | assumption); have q245 : x29_3 < (t239.length : Int) := of_decide_eq_true (by first | (with_reducible assumption) | assumption); obtain ⟨ad245,A245_0,c245_0,e245,hx245_0,hl245_0,hi245_0⟩ := at_L4 (Kd.ZJ HO_19.out).2.2 x29_3 p245 q245
                          cases e245
                          obtain ⟨ce245,hce245,hMe245,hcc245⟩ := Kd.S_get HO_19.out [] x29_3 p245 (by first | exact q245 | exact of_decide_eq_true (by first | (with_reducible assumption) | assumption) | (have e_ := (Kd.ZJ HO_19.out).1; omega)); obtain ⟨ve245_0,rfl,ge245_0⟩ := hMe245; have hv245_0 := hcc245 0 _ rfl; rw [Nat.add_zero,show ((Kd.slice 3 (Kd.int .i64))).sz = 1 from rfl,Nat.mul_one] at hv245_0; replace hv245_0 := Option.some.inj (hv245_0.symm.trans hx245_0); rw [hv245_0] at ge245_0; have HL245_0 := Zh.mk (show Kd.R (Kd.int .i64) 3 _ _ _ _ (rd_L4 t239 x29_3) from ge245_0); clear hv245_0 ge245_0; clear hcc245 hce245; have HR245_0 := Zh.mk hi245_0; have HC245_0 := Zh.mk hl245_0; clear hi245_0 hl245_0; replace p245 := eq_true p245; replace q245 := eq_true q245
                          try go_wp2
                          have n0_ := Zh.mk (Kd.ZG HO_19.out); have n1_ := Zh.mk (Kd.X4 HL245_0.out); have n2_ := Zh.mk (Ze BK190.out); have n3_ := Zh.mk (Ze BK191.out); have n4_ := Zh.mk (Ze BK192.out); have n5_ := Zh.mk (Ze BK200.out); have n6_ := Zh.mk (Ze BK208.out); have n7_ := Zh.mk (Ze BK234.out); have n8_ := Zh.mk (Kd.ZX HR245_0.out); have n9_ := Zh.mk (Zj HB.out); clear HO_19; clear HL245_0; clear BK190; clear BK191; clear BK192; clear BK200; clear BK208; clear BK234; clear HR245_0; clear HB; have HO_19 := n0_; have HL245_0 := n1_; have BK190 := n2_; have BK191 := n3_; have BK192 := n4_; have BK200 := n5_; have BK208 := n6_; have BK234 := n7_; have HR245_0 := n8_; have HB := n9_; clear n0_ n1_ n2_ n3_ n4_ n5_ n6_ n7_ n8_ n9_; have p246 : 0 ≤ (x29_3 : Int) := of_decide_eq_true (by first | (with_reducible assumption) | assumption); have q246 : x29_3 < (t239.length : Int) := of_decide_eq_true (by first | (with_reducible assumption) | assumption); obtain ⟨ad246,A246_0,c246_0,e246,hx246_0,hl246_0,hi246_0⟩ := at_L4 (Kd.ZJ HO_19.out).2.2 x29_3 p246 q246
                          obtain rfl : ad245 = ad246 := (by injection e246)
                          obtain ⟨ce246,hce246,hMe246,hcc246⟩ := Kd.S_get HO_19.out [] x29_3 p246 (by first | exact q246 | exact of_decide_eq_true (by first | (with_reducible assumption) | assumption) | (have e_ := (Kd.ZJ HO_19.out).1; omega)); obtain ⟨ve246_0,rfl,ge246_0⟩ := hMe246; have hv246_0 := hcc246 0 _ rfl; rw [Nat.add_zero,show ((Kd.slice 3 (Kd.int .i64))).sz = 1 from rfl,Nat.mul_one] at hv246_0; replace hv246_0 := Option.some.inj (hv246_0.symm.trans hx246_0); rw [hv246_0] at ge246_0; have HL246_0 := Zh.mk (show Kd.R (Kd.int .i64) 3 _ _ _ _ (rd_L4 t239 x29_3) from ge246_0); clear hv246_0 ge246_0; clear hcc246 hce246; have HR246_0 := Zh.mk hi246_0; have HC246_0 := Zh.mk hl246_0; clear hi246_0 hl246_0; replace p246 := eq_true p246; replace q246 := eq_true q246; have p247 : 0 ≤ (x30_4 : Int) := of_decide_eq_true (by first | (with_reducible assumption) | assumption); have q247 : x30_4 < ((rd_L4 t239 x29_3).length : Int) := of_decide_eq_true (by first | (with_reducible assumption) | assumption); obtain ⟨ad247,e247,hx247_0⟩ := Kd.X2 (by repeat (first | (with_reducible exact HR246_0.out) | (with_reducible refine Kd.ZV ?_ _) | (with_reducible refine Kd.ZW ?_ _) | (with_reducible refine Kd.ZX ?_) | exact HR246_0.out)) x30_4 p247 q247
                          cases e247
                          replace p247 := eq_true p247; replace q247 := eq_true q247; refine Xk (n := 22) (S := fun w' => w'.cell? (ad245.add (x29_3).toNat) = some (.slice (some ad247) (rd_L4 t239 x29_3).length c246_0) ∧ w'.cell? (ad247.add (x30_4).toNat) = some (.int .i64 (rd (rd_L4 t239 x29_3) x30_4))) (ds := []) #[U,U,U,U,U,U,U,U,U,U,U,U,U,U,U,U,U,U,U,U,U,U] (by kernel_rfl) rfl rfl ⟨hx246_0,hx247_0⟩ (fun hHeld => ?_); refine Xb Zg.tab24 Zg.bits24 (fun HT_ HW_ => ?_); generalize wr.drew = w204 at HO_19 HL245_0 BK190 BK191 BK192 BK200 BK208 BK234 HR245_0 HB HL246_0 HR246_0 hx246_0 hx247_0 hHeld ⊢; refine pure_ (i := 0) (N := some 178) (v := ?_) (a' := ?_) #[Y,U,U,U,U,U,U,U,U,U,U,U,U,U,U,U,U,U,U,U,U,U] rfl rfl (Zo HT_.out (by kernel_rfl)) (fun _ _ _ h => h) (Or.inl ⟨by rfl,?_⟩) ?_ ?_; rotate_left
                          · intro w'
                            go_simp; with_reducible rfl
                          rotate_left
                          · simp only [Act.put,Yi,Yj,Yk,i64_w,i32_w]
                            rfl
                          refine pure_ (i := 1) (N := some 179) (v := ?_) (a' := ?_) #[Y,Y,U,U,U,U,U,U,U,U,U,U,U,U,U,U,U,U,U,U,U,U] rfl rfl (Zo HT_.out (by kernel_rfl)) (fun _ _ _ h => h) (Or.inl ⟨by rfl,?_⟩) ?_ ?_; rotate_left
                          · intro w'
                            go_simp; with_reducible rfl
                          rotate_left
                          · simp only [Act.put,Yi,Yj,Yk,i64_w,i32_w]
                            rfl
                          refine pure_ (i := 2) (N := some 180) (v := ?_) (a' := ?_) #[Y,Y,Y,U,U,U,U,U,U,U,U,U,U,U,U,U,U,U,U,U,U,U] rfl rfl (Zo HT_.out (by kernel_rfl)) (fun _ _ _ h => h) (Or.inl ⟨by rfl,?_⟩) ?_ ?_; rotate_left
                          · intro w'
                            go_simp; with_reducible rfl
                          rotate_left
                          · simp only [Act.put,Yi,Yj,Yk,i64_w,i32_w]
                            rfl
                          refine pure_ (i := 4) (N := some 182) (v := ?_) (a' := ?_) #[Y,Y,Y,U,Y,U,U,U,U,U,U,U,U,U,U,U,U,U,U,U,U,U] rfl rfl (Zo HT_.out (by kernel_rfl)) (fun _ _ _ h => h) (Or.inl ⟨by rfl,?_⟩) ?_ ?_; rotate_left
                          · intro w'
                            go_simp; with_reducible rfl
                          rotate_left
                          · simp only [Act.put,Yi,Yj,Yk,i64_w,i32_w]
                            rfl
                          refine pure_ (i := 7) (N := some 185) (v := ?_) (a' := ?_) #[Y,Y,Y,U,Y,U,U,Y,U,U,U,U,U,U,U,U,U,U,U,U,U,U] rfl rfl (Zo HT_.out (by kernel_rfl)) (fun _ _ _ h => h) (Or.inl ⟨by rfl,?_⟩) ?_ ?_; rotate_left
                          · intro w'
                            go_simp; with_reducible rfl
                          rotate_left
                          · simp only [Act.put,Yi,Yj,Yk,i64_w,i32_w]
                            rfl
                          refine take_ (i := 3) (N := some 181) (v := ?_) (a' := ?_) #[Y,Y,Y,Y,Y,U,U,Y,U,U,U,U,U,U,U,U,U,U,U,U,U,U] rfl rfl (Z8 HT_.out HW_.out (by kernel_rfl)) (fun _ _ _ h => h) (Or.inl ⟨by rfl,?_⟩) hHeld ?_ ?_; rotate_left
                          · rintro w' ⟨s0,s1⟩
                            go_simp; with_reducible rfl
                          rotate_left
                          · simp only [Act.put,Yi,Yj,Yk,i64_w,i32_w]
                            rfl
                          refine pure_ (i := 5) (N := some 183) (v := ?_) (a' := ?_) #[Y,Y,Y,Y,Y,Y,U,Y,U,U,U,U,U,U,U,U,U,U,U,U,U,U] rfl rfl (Zo HT_.out (by kernel_rfl)) (fun _ _ _ h => h) (Or.inl ⟨by rfl,?_⟩) ?_ ?_; rotate_left
                          · intro w'
                            go_simp; with_reducible rfl
                          rotate_left
                          · simp only [Act.put,Yi,Yj,Yk,i64_w,i32_w]
                            rfl
                          refine take_ (i := 6) (N := some 184) (v := ?_) (a' := ?_) #[Y,Y,Y,Y,Y,Y,Y,Y,U,U,U,U,U,U,U,U,U,U,U,U,U,U] rfl rfl (Z8 HT_.out HW_.out (by kernel_rfl)) (fun _ _ _ h => h) (Or.inl ⟨by rfl,?_⟩) hHeld ?_ ?_; rotate_left
                          · rintro w' ⟨s0,s1⟩
                            go_simp; with_reducible rfl
                          rotate_left
                          · simp only [Act.put,Yi,Yj,Yk,i64_w,i32_w]
                            rfl
                          refine pure_ (i := 8) (N := some 186) (v := ?_) (a' := ?_) #[Y,Y,Y,Y,Y,Y,Y,Y,Y,U,U,U,U,U,U,U,U,U,U,U,U,U] rfl rfl (Zo HT_.out (by kernel_rfl)) (fun _ _ _ h => h) (Or.inl ⟨by rfl,?_⟩) ?_ ?_; rotate_left
                          · intro w'
                            go_simp; with_reducible rfl
                          rotate_left
                          · simp only [Act.put,Yi,Yj,Yk,i64_w,i32_w]
                            rfl
                          refine pure_ (i := 9) (N := some 187) (v := ?_) (a' := ?_) #[Y,Y,Y,Y,Y,Y,Y,Y,Y,Y,U,U,U,U,U,U,U,U,U,U,U,U] rfl rfl (Zo HT_.out (by kernel_rfl)) (fun _ _ _ h => h) (Or.inl ⟨by rfl,?_⟩) ?_ ?_; rotate_left
                          · intro w'
                            go_simp; with_reducible rfl
                          rotate_left
                          · simp only [Act.put,Yi,Yj,Yk,i64_w,i32_w]
                            rfl
                          refine pure_ (i := 10) (N := some 188) (v := undef) (a' := ?_) #[Y,Y,Y,Y,Y,Y,Y,Y,Y,Y,Y,U,U,U,U,U,U,U,U,U,U,U] rfl rfl (Zo HT_.out (by kernel_rfl)) (fun _ _ _ h => h) (Or.inr ⟨by rfl,rfl⟩) ?_ ?_; rotate_left
                          · simp only [Act.put,Yi,Yj,Yk,i64_w,i32_w]
                            rfl
                          refine pure_ (i := 11) (N := some 189) (v := undef) (a' := ?_) #[Y,Y,Y,Y,Y,Y,Y,Y,Y,Y,Y,Y,U,U,U,U,U,U,U,U,U,U] rfl rfl (Zo HT_.out (by kernel_rfl)) (fun _ _ _ h => h) (Or.inr ⟨by rfl,rfl⟩) ?_ ?_; rotate_left
                          · simp only [Act.put,Yi,Yj,Yk,i64_w,i32_w]
                            rfl
                          refine pure_ (i := 12) (N := some 190) (v := undef) (a' := ?_) #[Y,Y,Y,Y,Y,Y,Y,Y,Y,Y,Y,Y,Y,U,U,U,U,U,U,U,U,U] rfl rfl (Zo HT_.out (by kernel_rfl)) (fun _ _ _ h => h) (Or.inr ⟨by rfl,rfl⟩) ?_ ?_; rotate_left
                          · simp only [Act.put,Yi,Yj,Yk,i64_w,i32_w]
                            rfl
                          refine pure_ (i := 13) (N := some 191) (v := undef) (a' := ?_) #[Y,Y,Y,Y,Y,Y,Y,Y,Y,Y,Y,Y,Y,Y,U,U,U,U,U,U,U,U] rfl rfl (Zo HT_.out (by kernel_rfl)) (fun _ _ _ h => h) (Or.inr ⟨by rfl,rfl⟩) ?_ ?_; rotate_left
                          · simp only [Act.put,Yi,Yj,Yk,i64_w,i32_w]
                            rfl
                          refine pure_ (i := 14) (N := some 192) (v := undef) (a' := ?_) #[Y,Y,Y,Y,Y,Y,Y,Y,Y,Y,Y,Y,Y,Y,Y,U,U,U,U,U,U,U] rfl rfl (Zo HT_.out (by kernel_rfl)) (fun _ _ _ h => h) (Or.inr ⟨by rfl,rfl⟩) ?_ ?_; rotate_left
                          · simp only [Act.put,Yi,Yj,Yk,i64_w,i32_w]
                            rfl
                          refine pure_ (i := 15) (N := some 193) (v := undef) (a' := ?_) #[Y,Y,Y,Y,Y,Y,Y,Y,Y,Y,Y,Y,Y,Y,Y,Y,U,U,U,U,U,U] rfl rfl (Zo HT_.out (by kernel_rfl)) (fun _ _ _ h => h) (Or.inr ⟨by rfl,rfl⟩) ?_ ?_; rotate_left
                          · simp only [Act.put,Yi,Yj,Yk,i64_w,i32_w]
                            rfl
                          refine pure_ (i := 16) (N := some 194) (v := undef) (a' := ?_) #[Y,Y,Y,Y,Y,Y,Y,Y,Y,Y,Y,Y,Y,Y,Y,Y,Y,U,U,U,U,U] rfl rfl (Zo HT_.out (by kernel_rfl)) (fun _ _ _ h => h) (Or.inr ⟨by rfl,rfl⟩) ?_ ?_; rotate_left
                          · simp only [Act.put,Yi,Yj,Yk,i64_w,i32_w]
                            rfl
                          refine pure_ (i := 17) (N := some 195) (v := undef) (a' := ?_) #[Y,Y,Y,Y,Y,Y,Y,Y,Y,Y,Y,Y,Y,Y,Y,Y,Y,Y,U,U,U,U] rfl rfl (Zo HT_.out (by kernel_rfl)) (fun _ _ _ h => h) (Or.inr ⟨by rfl,rfl⟩) ?_ ?_; rotate_left
                          · simp only [Act.put,Yi,Yj,Yk,i64_w,i32_w]
                            rfl
                          refine pure_ (i := 18) (N := some 196) (v := undef) (a' := ?_) #[Y,Y,Y,Y,Y,Y,Y,Y,Y,Y,Y,Y,Y,Y,Y,Y,Y,Y,Y,U,U,U] rfl rfl (Zo HT_.out (by kernel_rfl)) (fun _ _ _ h => h) (Or.inr ⟨by rfl,rfl⟩) ?_ ?_; rotate_left
                          · simp only [Act.put,Yi,Yj,Yk,i64_w,i32_w]
                            rfl
                          refine pure_ (i := 19) (N := some 197) (v := undef) (a' := ?_) #[Y,Y,Y,Y,Y,Y,Y,Y,Y,Y,Y,Y,Y,Y,Y,Y,Y,Y,Y,Y,U,U] rfl rfl (Zo HT_.out (by kernel_rfl)) (fun _ _ _ h => h) (Or.inr ⟨by rfl,rfl⟩) ?_ ?_; rotate_left
                          · simp only [Act.put,Yi,Yj,Yk,i64_w,i32_w]
                            rfl
                          refine pure_ (i := 20) (N := some 198) (v := undef) (a' := ?_) #[Y,Y,Y,Y,Y,Y,Y,Y,Y,Y,Y,Y,Y,Y,Y,Y,Y,Y,Y,Y,Y,U] rfl rfl (Zo HT_.out (by kernel_rfl)) (fun _ _ _ h => h) (Or.inr ⟨by rfl,rfl⟩) ?_ ?_; rotate_left
                          · simp only [Act.put,Yi,Yj,Yk,i64_w,i32_w]
                            rfl
                          refine pure_ (i := 21) (N := some 199) (v := ?_) (a' := ?_) #[Y,Y,Y,Y,Y,Y,Y,Y,Y,Y,Y,Y,Y,Y,Y,Y,Y,Y,Y,Y,Y,Y] rfl rfl (Zo HT_.out (by kernel_rfl)) (fun _ _ _ h => h) (Or.inl ⟨by rfl,?_⟩) ?_ ?_; rotate_left
                          · intro w'
                            go_simp; with_reducible rfl
                          rotate_left
                          · simp only [Act.put,Yi,Yj,Yk,i64_w,i32_w]
                            rfl
                          refine done_ (Xh HT_.out (by kernel_rfl)) ?_
                          try go_wp2
                          go_ret; exact ⟨by first | rfl | (simp [Zw,Zx] <;> rfl) | (simp [*,Zw,Zx] <;> rfl),by repeat (first | (with_reducible first | exact HB.out | apply Zk | apply Zi | apply Zj | refine Zf ?_ GE190.out | refine Zf ?_ GE191.out | refine Zf ?_ GE192.out | refine Zf ?_ GE200.out | refine Zf ?_ GE208.out | refine Zf ?_ GE234.out) | exact HB.out)⟩
                        · rw [if_neg c203] at H
                          have c203b0 : decide ((rd (rd_L4 t239 x29_3) x30_4) < x28_4) = false := decide_eq_false c203; clear c203
                          by_cases c205 : t197 = 0
                          · rw [if_pos c205] at H
                            exact absurd H (by simp)
                          · rw [if_neg c205] at H
                            have c205b0 : (t197 == 0) = false := beq_eq_false_iff_ne.mpr c205; have c205b1 : (t197 != 0) = true := bne_iff_ne.mpr c205
                            by_cases c206 : (Int.tmod (rd (rd_L4 t239 x29_3) x30_4) t197) = 0
                            · rw [if_pos c206] at H
                              have c206b0 : ((Int.tmod (rd (rd_L4 t239 x29_3) x30_4) t197) == 0) = true := beq_iff_eq.mpr c206; have c206b1 : ((Int.tmod (rd (rd_L4 t239 x29_3) x30_4) t197) != 0) = false := bne_eq_false_iff_eq.mpr c206; clear c206; have H' := Zh.mk H; clear H; have p245 : 0 ≤ (x29_3 : Int) := of_decide_eq_true (by first | (with_reducible assumption) | assumption); have q245 : x29_3 < (t239.length : Int) := of_decide_eq_true (by first | (with_reducible assumption) | assumption); obtain ⟨ad245,A245_0,c245_0,e245,hx245_0,hl245_0,hi245_0⟩ := at_L4 (Kd.ZJ HO_19.out).2.2 x29_3 p245 q245
                              cases e245
                              obtain ⟨ce245,hce245,hMe245,hcc245⟩ := Kd.S_get HO_19.out [] x29_3 p245 (by first | exact q245 | exact of_decide_eq_true (by first | (with_reducible assumption) | assumption) | (have e_ := (Kd.ZJ HO_19.out).1; omega)); obtain ⟨ve245_0,rfl,ge245_0⟩ := hMe245; have hv245_0 := hcc245 0 _ rfl; rw [Nat.add_zero,show ((Kd.slice 3 (Kd.int .i64))).sz = 1 from rfl,Nat.mul_one] at hv245_0; replace hv245_0 := Option.some.inj (hv245_0.symm.trans hx245_0); rw [hv245_0] at ge245_0; have HL245_0 := Zh.mk (show Kd.R (Kd.int .i64) 3 _ _ _ _ (rd_L4 t239 x29_3) from ge245_0); clear hv245_0 ge245_0; clear hcc245 hce245; have HR245_0 := Zh.mk hi245_0; have HC245_0 := Zh.mk hl245_0; clear hi245_0 hl245_0; replace p245 := eq_true p245; replace q245 := eq_true q245
                              try go_wp2
                              have n0_ := Zh.mk (Kd.ZG HO_19.out); have n1_ := Zh.mk (Kd.X4 HL245_0.out); have n2_ := Zh.mk (Ze BK190.out); have n3_ := Zh.mk (Ze BK191.out); have n4_ := Zh.mk (Ze BK192.out); have n5_ := Zh.mk (Ze BK200.out); have n6_ := Zh.mk (Ze BK208.out); have n7_ := Zh.mk (Ze BK234.out); have n8_ := Zh.mk (Kd.ZX HR245_0.out); have n9_ := Zh.mk (Zj HB.out); clear HO_19; clear HL245_0; clear BK190; clear BK191; clear BK192; clear BK200; clear BK208; clear BK234; clear HR245_0; clear HB; have HO_19 := n0_; have HL245_0 := n1_; have BK190 := n2_; have BK191 := n3_; have BK192 := n4_; have BK200 := n5_; have BK208 := n6_; have BK234 := n7_; have HR245_0 := n8_; have HB := n9_; clear n0_ n1_ n2_ n3_ n4_ n5_ n6_ n7_ n8_ n9_; have p246 : 0 ≤ (x29_3 : Int) := of_decide_eq_true (by first | (with_reducible assumption) | assumption); have q246 : x29_3 < (t239.length : Int) := of_decide_eq_true (by first | (with_reducible assumption) | assumption); obtain ⟨ad246,A246_0,c246_0,e246,hx246_0,hl246_0,hi246_0⟩ := at_L4 (Kd.ZJ HO_19.out).2.2 x29_3 p246 q246
                              obtain rfl : ad245 = ad246 := (by injection e246)
                              obtain ⟨ce246,hce246,hMe246,hcc246⟩ := Kd.S_get HO_19.out [] x29_3 p246 (by first | exact q246 | exact of_decide_eq_true (by first | (with_reducible assumption) | assumption) | (have e_ := (Kd.ZJ HO_19.out).1; omega)); obtain ⟨ve246_0,rfl,ge246_0⟩ := hMe246; have hv246_0 := hcc246 0 _ rfl; rw [Nat.add_zero,show ((Kd.slice 3 (Kd.int .i64))).sz = 1 from rfl,Nat.mul_one] at hv246_0; replace hv246_0 := Option.some.inj (hv246_0.symm.trans hx246_0); rw [hv246_0] at ge246_0; have HL246_0 := Zh.mk (show Kd.R (Kd.int .i64) 3 _ _ _ _ (rd_L4 t239 x29_3) from ge246_0); clear hv246_0 ge246_0; clear hcc246 hce246; have HR246_0 := Zh.mk hi246_0; have HC246_0 := Zh.mk hl246_0; clear hi246_0 hl246_0; replace p246 := eq_true p246; replace q246 := eq_true q246; have p247 : 0 ≤ (x30_4 : Int) := of_decide_eq_true (by first | (with_reducible assumption) | assumption); have q247 : x30_4 < ((rd_L4 t239 x29_3).length : Int) := of_decide_eq_true (by first | (with_reducible assumption) | assumption); obtain ⟨ad247,e247,hx247_0⟩ := Kd.X2 (by repeat (first | (with_reducible exact HR246_0.out) | (with_reducible refine Kd.ZV ?_ _) | (with_reducible refine Kd.ZW ?_ _) | (with_reducible refine Kd.ZX ?_) | exact HR246_0.out)) x30_4 p247 q247
                              cases e247
                              replace p247 := eq_true p247; replace q247 := eq_true q247; have p248 : 0 ≤ (x29_3 : Int) := of_decide_eq_true (by first | (with_reducible assumption) | assumption); have q248 : x29_3 < (t239.length : Int) := of_decide_eq_true (by first | (with_reducible assumption) | assumption); obtain ⟨ad248,A248_0,c248_0,e248,hx248_0,hl248_0,hi248_0⟩ := at_L4 (Kd.ZJ HO_19.out).2.2 x29_3 p248 q248
                              obtain rfl : ad245 = ad248 := (by injection e248)
                              obtain ⟨ce248,hce248,hMe248,hcc248⟩ := Kd.S_get HO_19.out [] x29_3 p248 (by first | exact q248 | exact of_decide_eq_true (by first | (with_reducible assumption) | assumption) | (have e_ := (Kd.ZJ HO_19.out).1; omega)); obtain ⟨ve248_0,rfl,ge248_0⟩ := hMe248; have hv248_0 := hcc248 0 _ rfl; rw [Nat.add_zero,show ((Kd.slice 3 (Kd.int .i64))).sz = 1 from rfl,Nat.mul_one] at hv248_0; replace hv248_0 := Option.some.inj (hv248_0.symm.trans hx248_0); rw [hv248_0] at ge248_0; have HL248_0 := Zh.mk (show Kd.R (Kd.int .i64) 3 _ _ _ _ (rd_L4 t239 x29_3) from ge248_0); clear hv248_0 ge248_0; clear hcc248 hce248; have HR248_0 := Zh.mk hi248_0; have HC248_0 := Zh.mk hl248_0; clear hi248_0 hl248_0; replace p248 := eq_true p248; replace q248 := eq_true q248; have ea_ := Option.some.inj (hx246_0.symm.trans hx248_0)
                              injection ea_ with ea_ en_ ec_
                              subst ea_; subst ec_; clear en_; have p249 : 0 ≤ (x30_4 : Int) := of_decide_eq_true (by first | (with_reducible assumption) | assumption); have q249 : x30_4 < ((rd_L4 t239 x29_3).length : Int) := of_decide_eq_true (by first | (with_reducible assumption) | assumption); obtain ⟨ad249,e249,hx249_0⟩ := Kd.X2 (by repeat (first | (with_reducible exact HR248_0.out) | (with_reducible refine Kd.ZV ?_ _) | (with_reducible refine Kd.ZW ?_ _) | (with_reducible refine Kd.ZX ?_) | exact HR248_0.out)) x30_4 p249 q249
                              cases e249
                              replace p249 := eq_true p249; replace q249 := eq_true q249; refine Xk (n := 22) (S := fun w' => w'.cell? ⟨gb200,0,none⟩ = some (.int .i64 t193) ∧ w'.cell? ⟨gb200,1,none⟩ = some (.int .i64 t194) ∧ w'.cell? ⟨gb200,2,none⟩ = some (.int .i64 t195) ∧ w'.cell? ⟨gb200,3,none⟩ = some (.int .i64 t196) ∧ w'.cell? ⟨gb200,4,none⟩ = some (.int .i64 t197) ∧ w'.cell? ⟨gb200,5,none⟩ = some (.int .i64 t198) ∧ w'.cell? (ad245.add (x29_3).toNat) = some (.slice (some ad247) (rd_L4 t239 x29_3).length c246_0) ∧ w'.cell? (ad247.add (x30_4).toNat) = some (.int .i64 (rd (rd_L4 t239 x29_3) x30_4)) ∧ w'.cell? (ad245.add (x29_3).toNat) = some (.slice (some ad247) (rd_L4 t239 x29_3).length c246_0) ∧ w'.cell? (ad247.add (x30_4).toNat) = some (.int .i64 (rd (rd_L4 t239 x29_3) x30_4))) (ds := []) #[U,U,U,U,U,U,U,U,U,U,U,U,U,U,U,U,U,U,U,U,U,U] (by kernel_rfl) rfl rfl ⟨(Za BK200.out 0).trans rfl,(Za BK200.out 1).trans rfl,(Za BK200.out 2).trans rfl,(Za BK200.out 3).trans rfl,(Za BK200.out 4).trans rfl,(Za BK200.out 5).trans rfl,hx246_0,hx247_0,hx248_0,hx249_0⟩ (fun hHeld => ?_); refine Xb Zg.tab24 Zg.bits24 (fun HT_ HW_ => ?_); generalize wr.drew = w207 at HO_19 HL245_0 BK190 BK191 BK192 BK200 BK208 BK234 HR245_0 HB HL246_0 HL248_0 HR246_0 HR248_0 hx246_0 hx247_0 hx248_0 hx249_0 hHeld ⊢; refine pure_ (i := 0) (N := some 178) (v := ?_) (a' := ?_) #[Y,U,U,U,U,U,U,U,U,U,U,U,U,U,U,U,U,U,U,U,U,U] rfl rfl (Zo HT_.out (by kernel_rfl)) (fun _ _ _ h => h) (Or.inl ⟨by rfl,?_⟩) ?_ ?_; rotate_left
                              · intro w'
                                go_simp; with_reducible rfl
                              rotate_left
                              · simp only [Act.put,Yi,Yj,Yk,i64_w,i32_w]
                                rfl
                              refine pure_ (i := 1) (N := some 179) (v := ?_) (a' := ?_) #[Y,Y,U,U,U,U,U,U,U,U,U,U,U,U,U,U,U,U,U,U,U,U] rfl rfl (Zo HT_.out (by kernel_rfl)) (fun _ _ _ h => h) (Or.inl ⟨by rfl,?_⟩) ?_ ?_; rotate_left
                              · intro w'
                                go_simp; with_reducible rfl
                              rotate_left
                              · simp only [Act.put,Yi,Yj,Yk,i64_w,i32_w]
                                rfl
                              refine pure_ (i := 2) (N := some 180) (v := ?_) (a' := ?_) #[Y,Y,Y,U,U,U,U,U,U,U,U,U,U,U,U,U,U,U,U,U,U,U] rfl rfl (Zo HT_.out (by kernel_rfl)) (fun _ _ _ h => h) (Or.inl ⟨by rfl,?_⟩) ?_ ?_; rotate_left
                              · intro w'
                                go_simp; with_reducible rfl
                              rotate_left
                              · simp only [Act.put,Yi,Yj,Yk,i64_w,i32_w]
                                rfl
                              refine pure_ (i := 4) (N := some 182) (v := ?_) (a' := ?_) #[Y,Y,Y,U,Y,U,U,U,U,U,U,U,U,U,U,U,U,U,U,U,U,U] rfl rfl (Zo HT_.out (by kernel_rfl)) (fun _ _ _ h => h) (Or.inl ⟨by rfl,?_⟩) ?_ ?_; rotate_left
                              · intro w'
                                go_simp; with_reducible rfl
                              rotate_left
                              · simp only [Act.put,Yi,Yj,Yk,i64_w,i32_w]
                                rfl
                              refine pure_ (i := 7) (N := some 185) (v := ?_) (a' := ?_) #[Y,Y,Y,U,Y,U,U,Y,U,U,U,U,U,U,U,U,U,U,U,U,U,U] rfl rfl (Zo HT_.out (by kernel_rfl)) (fun _ _ _ h => h) (Or.inl ⟨by rfl,?_⟩) ?_ ?_; rotate_left
                              · intro w'
                                go_simp; with_reducible rfl
                              rotate_left
                              · simp only [Act.put,Yi,Yj,Yk,i64_w,i32_w]
                                rfl
                              refine take_ (i := 3) (N := some 181) (v := ?_) (a' := ?_) #[Y,Y,Y,Y,Y,U,U,Y,U,U,U,U,U,U,U,U,U,U,U,U,U,U] rfl rfl (Z8 HT_.out HW_.out (by kernel_rfl)) (fun _ _ _ h => h) (Or.inl ⟨by rfl,?_⟩) hHeld ?_ ?_; rotate_left
                              · rintro w' ⟨s0,s1,s2,s3,s4,s5,s6,s7,s8,s9⟩
                                go_simp; with_reducible rfl
                              rotate_left
                              · simp only [Act.put,Yi,Yj,Yk,i64_w,i32_w]
                                rfl
                              refine pure_ (i := 5) (N := some 183) (v := ?_) (a' := ?_) #[Y,Y,Y,Y,Y,Y,U,Y,U,U,U,U,U,U,U,U,U,U,U,U,U,U] rfl rfl (Zo HT_.out (by kernel_rfl)) (fun _ _ _ h => h) (Or.inl ⟨by rfl,?_⟩) ?_ ?_; rotate_left
                              · intro w'
                                go_simp; with_reducible rfl
                              rotate_left
                              · simp only [Act.put,Yi,Yj,Yk,i64_w,i32_w]
                                rfl
                              refine take_ (i := 6) (N := some 184) (v := ?_) (a' := ?_) #[Y,Y,Y,Y,Y,Y,Y,Y,U,U,U,U,U,U,U,U,U,U,U,U,U,U] rfl rfl (Z8 HT_.out HW_.out (by kernel_rfl)) (fun _ _ _ h => h) (Or.inl ⟨by rfl,?_⟩) hHeld ?_ ?_; rotate_left
                              · rintro w' ⟨s0,s1,s2,s3,s4,s5,s6,s7,s8,s9⟩
                                go_simp; with_reducible rfl
                              rotate_left
                              · simp only [Act.put,Yi,Yj,Yk,i64_w,i32_w]
                                rfl
                              refine pure_ (i := 8) (N := some 186) (v := ?_) (a' := ?_) #[Y,Y,Y,Y,Y,Y,Y,Y,Y,U,U,U,U,U,U,U,U,U,U,U,U,U] rfl rfl (Zo HT_.out (by kernel_rfl)) (fun _ _ _ h => h) (Or.inl ⟨by rfl,?_⟩) ?_ ?_; rotate_left
                              · intro w'
                                go_simp; with_reducible rfl
                              rotate_left
                              · simp only [Act.put,Yi,Yj,Yk,i64_w,i32_w]
                                rfl
                              refine pure_ (i := 9) (N := some 187) (v := ?_) (a' := ?_) #[Y,Y,Y,Y,Y,Y,Y,Y,Y,Y,U,U,U,U,U,U,U,U,U,U,U,U] rfl rfl (Zo HT_.out (by kernel_rfl)) (fun _ _ _ h => h) (Or.inl ⟨by rfl,?_⟩) ?_ ?_; rotate_left
                              · intro w'
                                go_simp; with_reducible rfl
                              rotate_left
                              · simp only [Act.put,Yi,Yj,Yk,i64_w,i32_w]
                                rfl
                              refine pure_ (i := 10) (N := some 188) (v := ?_) (a' := ?_) #[Y,Y,Y,Y,Y,Y,Y,Y,Y,Y,Y,U,U,U,U,U,U,U,U,U,U,U] rfl rfl (Zo HT_.out (by kernel_rfl)) (fun _ _ _ h => h) (Or.inl ⟨by rfl,?_⟩) ?_ ?_; rotate_left
                              · intro w'
                                go_simp; with_reducible rfl
                              rotate_left
                              · simp only [Act.put,Yi,Yj,Yk,i64_w,i32_w]
                                rfl
                              refine pure_ (i := 11) (N := some 189) (v := ?_) (a' := ?_) #[Y,Y,Y,Y,Y,Y,Y,Y,Y,Y,Y,Y,U,U,U,U,U,U,U,U,U,U] rfl rfl (Zo HT_.out (by kernel_rfl)) (fun _ _ _ h => h) (Or.inl ⟨by rfl,?_⟩) ?_ ?_; rotate_left
                              · intro w'
                                go_simp; with_reducible rfl
                              rotate_left
                              · simp only [Act.put,Yi,Yj,Yk,i64_w,i32_w]
                                rfl
                              refine pure_ (i := 12) (N := some 190) (v := ?_) (a' := ?_) #[Y,Y,Y,Y,Y,Y,Y,Y,Y,Y,Y,Y,Y,U,U,U,U,U,U,U,U,U] rfl rfl (Zo HT_.out (by kernel_rfl)) (fun _ _ _ h => h) (Or.inl ⟨by rfl,?_⟩) ?_ ?_; rotate_left
                              · intro w'
                                go_simp; with_reducible rfl
                              rotate_left
                              · simp only [Act.put,Yi,Yj,Yk,i64_w,i32_w]
                                rfl
                              refine pure_ (i := 14) (N := some 192) (v := ?_) (a' := ?_) #[Y,Y,Y,Y,Y,Y,Y,Y,Y,Y,Y,Y,Y,U,Y,U,U,U,U,U,U,U] rfl rfl (Zo HT_.out (by kernel_rfl)) (fun _ _ _ h => h) (Or.inl ⟨by rfl,?_⟩) ?_ ?_; rotate_left
                              · intro w'
                                go_simp; with_reducible rfl
                              rotate_left
                              · simp only [Act.put,Yi,Yj,Yk,i64_w,i32_w]
                                rfl
                              refine pure_ (i := 17) (N := some 195) (v := ?_) (a' := ?_) #[Y,Y,Y,Y,Y,Y,Y,Y,Y,Y,Y,Y,Y,U,Y,U,U,Y,U,U,U,U] rfl rfl (Zo HT_.out (by kernel_rfl)) (fun _ _ _ h => h) (Or.inl ⟨by rfl,?_⟩) ?_ ?_; rotate_left
                              · intro w'
                                go_simp; with_reducible rfl
                              rotate_left
                              · simp only [Act.put,Yi,Yj,Yk,i64_w,i32_w]
                                rfl
                              refine take_ (i := 13) (N := some 191) (v := ?_) (a' := ?_) #[Y,Y,Y,Y,Y,Y,Y,Y,Y,Y,Y,Y,Y,Y,Y,U,U,Y,U,U,U,U] rfl rfl (Z8 HT_.out HW_.out (by kernel_rfl)) (fun _ _ _ h => h) (Or.inl ⟨by rfl,?_⟩) hHeld ?_ ?_; rotate_left
                              · rintro w' ⟨s0,s1,s2,s3,s4,s5,s6,s7,s8,s9⟩
                                go_simp; with_reducible rfl
                              rotate_left
                              · simp only [Act.put,Yi,Yj,Yk,i64_w,i32_w]
                                rfl
                              refine pure_ (i := 15) (N := some 193) (v := ?_) (a' := ?_) #[Y,Y,Y,Y,Y,Y,Y,Y,Y,Y,Y,Y,Y,Y,Y,Y,U,Y,U,U,U,U] rfl rfl (Zo HT_.out (by kernel_rfl)) (fun _ _ _ h => h) (Or.inl ⟨by rfl,?_⟩) ?_ ?_; rotate_left
                              · intro w'
                                go_simp; with_reducible rfl
                              rotate_left
                              · simp only [Act.put,Yi,Yj,Yk,i64_w,i32_w]
                                rfl
                              refine take_ (i := 16) (N := some 194) (v := ?_) (a' := ?_) #[Y,Y,Y,Y,Y,Y,Y,Y,Y,Y,Y,Y,Y,Y,Y,Y,Y,Y,U,U,U,U] rfl rfl (Z8 HT_.out HW_.out (by kernel_rfl)) (fun _ _ _ h => h) (Or.inl ⟨by rfl,?_⟩) hHeld ?_ ?_; rotate_left
                              · rintro w' ⟨s0,s1,s2,s3,s4,s5,s6,s7,s8,s9⟩
                                go_simp; with_reducible rfl
                              rotate_left
                              · simp only [Act.put,Yi,Yj,Yk,i64_w,i32_w]
                                rfl
                              refine take_ (i := 18) (N := some 196) (v := ?_) (a' := ?_) #[Y,Y,Y,Y,Y,Y,Y,Y,Y,Y,Y,Y,Y,Y,Y,Y,Y,Y,Y,U,U,U] rfl rfl (Z8 HT_.out HW_.out (by kernel_rfl)) (fun _ _ _ h => h) (Or.inl ⟨by rfl,?_⟩) hHeld ?_ ?_; rotate_left
                              · rintro w' ⟨s0,s1,s2,s3,s4,s5,s6,s7,s8,s9⟩
                                go_simp; with_reducible rfl
                              rotate_left
                              · simp only [Act.put,Yi,Yj,Yk,i64_w,i32_w]
                                rfl
                              refine pure_ (i := 19) (N := some 197) (v := ?_) (a' := ?_) #[Y,Y,Y,Y,Y,Y,Y,Y,Y,Y,Y,Y,Y,Y,Y,Y,Y,Y,Y,Y,U,U] rfl rfl (Zo HT_.out (by kernel_rfl)) (fun _ _ _ h => h) (Or.inl ⟨by rfl,?_⟩) ?_ ?_; rotate_left
                              · intro w'
                                go_simp; with_reducible rfl
                              rotate_left
                              · simp only [Act.put,Yi,Yj,Yk,i64_w,i32_w]
                                rfl
                              refine pure_ (i := 20) (N := some 198) (v := ?_) (a' := ?_) #[Y,Y,Y,Y,Y,Y,Y,Y,Y,Y,Y,Y,Y,Y,Y,Y,Y,Y,Y,Y,Y,U] rfl rfl (Zo HT_.out (by kernel_rfl)) (fun _ _ _ h => h) (Or.inl ⟨by rfl,?_⟩) ?_ ?_; rotate_left
                              · intro w'
                                go_simp; with_reducible rfl
                              rotate_left
                              · simp only [Act.put,Yi,Yj,Yk,i64_w,i32_w]
                                rfl
                              refine pure_ (i := 21) (N := some 199) (v := ?_) (a' := ?_) #[Y,Y,Y,Y,Y,Y,Y,Y,Y,Y,Y,Y,Y,Y,Y,Y,Y,Y,Y,Y,Y,Y] rfl rfl (Zo HT_.out (by kernel_rfl)) (fun _ _ _ h => h) (Or.inl ⟨by rfl,?_⟩) ?_ ?_; rotate_left
                              · intro w'
                                go_simp; with_reducible rfl
                              rotate_left
                              · simp only [Act.put,Yi,Yj,Yk,i64_w,i32_w]
                                rfl
                              refine done_ (Xh HT_.out (by kernel_rfl)) ?_
                              try go_wp2
                              have n0_ := Zh.mk (Kd.ZG HO_19.out); have n1_ := Zh.mk (Kd.X4 HL245_0.out); have n2_ := Zh.mk (Kd.X4 HL246_0.out); have n3_ := Zh.mk (Kd.X4 HL248_0.out); have n4_ := Zh.mk (Ze BK190.out); have n5_ := Zh.mk (Ze BK191.out); have n6_ := Zh.mk (Ze BK192.out); have n7_ := Zh.mk (Ze BK200.out); have n8_ := Zh.mk (Ze BK208.out); have n9_ := Zh.mk (Ze BK234.out); have n10_ := Zh.mk (Kd.ZX HR245_0.out); have n11_ := Zh.mk (Kd.ZX HR246_0.out); have n12_ := Zh.mk (Kd.ZX HR248_0.out); have n13_ := Zh.mk (Zj HB.out); clear HO_19; clear HL245_0; clear HL246_0; clear HL248_0; clear BK190; clear BK191; clear BK192; clear BK200; clear BK208; clear BK234; clear HR245_0; clear HR246_0; clear HR248_0; clear HB; have HO_19 := n0_; have HL245_0 := n1_; have HL246_0 := n2_; have HL248_0 := n3_; have BK190 := n4_; have BK191 := n5_; have BK192 := n6_; have BK200 := n7_; have BK208 := n8_; have BK234 := n9_; have HR245_0 := n10_; have HR246_0 := n11_; have HR248_0 := n12_; have HB := n13_; clear n0_ n1_ n2_ n3_ n4_ n5_ n6_ n7_ n8_ n9_ n10_ n11_ n12_ n13_; have p250 : 0 ≤ (x29_3 : Int) := of_decide_eq_true (by first | (with_reducible assumption) | assumption); have q250 : x29_3 < (t239.length : Int) := of_decide_eq_true (by first | (with_reducible assumption) | assumption); obtain ⟨ad250,A250_0,c250_0,e250,hx250_0,hl250_0,hi250_0⟩ := at_L4 (Kd.ZJ HO_19.out).2.2 x29_3 p250 q250
                              obtain rfl : ad245 = ad250 := (by injection e250)
                              obtain ⟨ce250,hce250,hMe250,hcc250⟩ := Kd.S_get HO_19.out [] x29_3 p250 (by first | exact q250 | exact of_decide_eq_true (by first | (with_reducible assumption) | assumption) | (have e_ := (Kd.ZJ HO_19.out).1; omega)); obtain ⟨ve250_0,rfl,ge250_0⟩ := hMe250; have hv250_0 := hcc250 0 _ rfl; rw [Nat.add_zero,show ((Kd.slice 3 (Kd.int .i64))).sz = 1 from rfl,Nat.mul_one] at hv250_0; replace hv250_0 := Option.some.inj (hv250_0.symm.trans hx250_0); rw [hv250_0] at ge250_0; have HL250_0 := Zh.mk (show Kd.R (Kd.int .i64) 3 _ _ _ _ (rd_L4 t239 x29_3) from ge250_0); clear hv250_0 ge250_0; clear hcc250 hce250; have HR250_0 := Zh.mk hi250_0; have HC250_0 := Zh.mk hl250_0; clear hi250_0 hl250_0; replace p250 := eq_true p250; replace q250 := eq_true q250; have p251 : 0 ≤ (x30_4 : Int) := of_decide_eq_true (by first | (with_reducible assumption) | assumption); have q251 : x30_4 < ((rd_L4 t239 x29_3).length : Int) := of_decide_eq_true (by first | (with_reducible assumption) | assumption); obtain ⟨ad251,e251,hx251_0⟩ := Kd.X2 (by repeat (first | (with_reducible exact HR250_0.out) | (with_reducible refine Kd.ZV ?_ _) | (with_reducible refine Kd.ZW ?_ _) | (with_reducible refine Kd.ZX ?_) | exact HR250_0.out)) x30_4 p251 q251
                              cases e251
                              replace p251 := eq_true p251; replace q251 := eq_true q251; refine Xk (n := 11) (S := fun w' => w'.cell? ⟨gb200,0,none⟩ = some (.int .i64 t193) ∧ w'.cell? ⟨gb200,1,none⟩ = some (.int .i64 t194) ∧ w'.cell? ⟨gb200,2,none⟩ = some (.int .i64 t195) ∧ w'.cell? ⟨gb200,3,none⟩ = some (.int .i64 t196) ∧ w'.cell? ⟨gb200,4,none⟩ = some (.int .i64 t197) ∧ w'.cell? ⟨gb200,5,none⟩ = some (.int .i64 t198) ∧ w'.cell? (ad245.add (x29_3).toNat) = some (.slice (some ad251) (rd_L4 t239 x29_3).length c250_0) ∧ w'.cell? (ad251.add (x30_4).toNat) = some (.int .i64 (rd (rd_L4 t239 x29_3) x30_4))) (ds := []) #[U,U,U,U,U,U,U,U,U,U,U] (by kernel_rfl) rfl rfl ⟨(Za BK200.out 0).trans rfl,(Za BK200.out 1).trans rfl,(Za BK200.out 2).trans rfl,(Za BK200.out 3).trans rfl,(Za BK200.out 4).trans rfl,(Za BK200.out 5).trans rfl,hx250_0,hx251_0⟩ (fun hHeld => ?_); refine Xb Zg.tab26 Zg.bits26 (fun HT_ HW_ => ?_); generalize w207.drew = w208 at HO_19 HL245_0 HL246_0 HL248_0 BK190 BK191 BK192 BK200 BK208 BK234 HR245_0 HR246_0 HR248_0 HB HL250_0 HR250_0 hx250_0 hx251_0 hHeld ⊢; refine pure_ (i := 0) (N := some 200) (v := ?_) (a' := ?_) #[Y,U,U,U,U,U,U,U,U,U,U] rfl rfl (Zo HT_.out (by kernel_rfl)) (fun _ _ _ h => h) (Or.inl ⟨by rfl,?_⟩) ?_ ?_; rotate_left
                              · intro w'
                                go_simp; with_reducible rfl
                              rotate_left
                              · simp only [Act.put,Yi,Yj,Yk,i64_w,i32_w]
                                rfl
                              refine pure_ (i := 1) (N := some 201) (v := ?_) (a' := ?_) #[Y,Y,U,U,U,U,U,U,U,U,U] rfl rfl (Zo HT_.out (by kernel_rfl)) (fun _ _ _ h => h) (Or.inl ⟨by rfl,?_⟩) ?_ ?_; rotate_left
                              · intro w'
                                go_simp; with_reducible rfl
                              rotate_left
                              · simp only [Act.put,Yi,Yj,Yk,i64_w,i32_w]
                                rfl
                              refine pure_ (i := 2) (N := some 202) (v := ?_) (a' := ?_) #[Y,Y,Y,U,U,U,U,U,U,U,U] rfl rfl (Zo HT_.out (by kernel_rfl)) (fun _ _ _ h => h) (Or.inl ⟨by rfl,?_⟩) ?_ ?_; rotate_left
                              · intro w'
                                go_simp; with_reducible rfl
                              rotate_left
                              · simp only [Act.put,Yi,Yj,Yk,i64_w,i32_w]
                                rfl
                              refine pure_ (i := 4) (N := some 204) (v := ?_) (a' := ?_) #[Y,Y,Y,U,Y,U,U,U,U,U,U] rfl rfl (Zo HT_.out (by kernel_rfl)) (fun _ _ _ h => h) (Or.inl ⟨by rfl,?_⟩) ?_ ?_; rotate_left
                              · intro w'
                                go_simp; with_reducible rfl
                              rotate_left
                              · simp only [Act.put,Yi,Yj,Yk,i64_w,i32_w]
                                rfl
                              refine pure_ (i := 7) (N := some 207) (v := ?_) (a' := ?_) #[Y,Y,Y,U,Y,U,U,Y,U,U,U] rfl rfl (Zo HT_.out (by kernel_rfl)) (fun _ _ _ h => h) (Or.inl ⟨by rfl,?_⟩) ?_ ?_; rotate_left
                              · intro w'
                                go_simp; with_reducible rfl
                              rotate_left
                              · simp only [Act.put,Yi,Yj,Yk,i64_w,i32_w]
                                rfl
                              refine take_ (i := 3) (N := some 203) (v := ?_) (a' := ?_) #[Y,Y,Y,Y,Y,U,U,Y,U,U,U] rfl rfl (Z8 HT_.out HW_.out (by kernel_rfl)) (fun _ _ _ h => h) (Or.inl ⟨by rfl,?_⟩) hHeld ?_ ?_; rotate_left
                              · rintro w' ⟨s0,s1,s2,s3,s4,s5,s6,s7⟩
                                go_simp; with_reducible rfl
                              rotate_left
                              · simp only [Act.put,Yi,Yj,Yk,i64_w,i32_w]
                                rfl
                              refine pure_ (i := 5) (N := some 205) (v := ?_) (a' := ?_) #[Y,Y,Y,Y,Y,Y,U,Y,U,U,U] rfl rfl (Zo HT_.out (by kernel_rfl)) (fun _ _ _ h => h) (Or.inl ⟨by rfl,?_⟩) ?_ ?_; rotate_left
                              · intro w'
                                go_simp; with_reducible rfl
                              rotate_left
                              · simp only [Act.put,Yi,Yj,Yk,i64_w,i32_w]
                                rfl
                              refine take_ (i := 6) (N := some 206) (v := ?_) (a' := ?_) #[Y,Y,Y,Y,Y,Y,Y,Y,U,U,U] rfl rfl (Z8 HT_.out HW_.out (by kernel_rfl)) (fun _ _ _ h => h) (Or.inl ⟨by rfl,?_⟩) hHeld ?_ ?_; rotate_left
                              · rintro w' ⟨s0,s1,s2,s3,s4,s5,s6,s7⟩
                                go_simp; with_reducible rfl
                              rotate_left
                              · simp only [Act.put,Yi,Yj,Yk,i64_w,i32_w]
                                rfl
                              refine take_ (i := 8) (N := some 208) (v := ?_) (a' := ?_) #[Y,Y,Y,Y,Y,Y,Y,Y,Y,U,U] rfl rfl (Z8 HT_.out HW_.out (by kernel_rfl)) (fun _ _ _ h => h) (Or.inl ⟨by rfl,?_⟩) hHeld ?_ ?_; rotate_left
                              · rintro w' ⟨s0,s1,s2,s3,s4,s5,s6,s7⟩
                                go_simp; with_reducible rfl
                              rotate_left
                              · simp only [Act.put,Yi,Yj,Yk,i64_w,i32_w]
                                rfl
                              refine pure_ (i := 9) (N := some 209) (v := ?_) (a' := ?_) #[Y,Y,Y,Y,Y,Y,Y,Y,Y,Y,U] rfl rfl (Zo HT_.out (by kernel_rfl)) (fun _ _ _ h => h) (Or.inl ⟨by rfl,?_⟩) ?_ ?_; rotate_left
                              · intro w'
                                go_simp; with_reducible rfl
                              rotate_left
                              · simp only [Act.put,Yi,Yj,Yk,i64_w,i32_w]
                                rfl
                              refine pure_ (i := 10) (N := some 28) (v := ?_) (a' := ?_) #[Y,Y,Y,Y,Y,Y,Y,Y,Y,Y,Y] rfl rfl (Zo HT_.out (by kernel_rfl)) (fun _ _ _ h => h) (Or.inl ⟨by rfl,?_⟩) ?_ ?_; rotate_left
                              · intro w'
                                go_simp; with_reducible rfl
                              rotate_left
                              · simp only [Act.put,Yi,Yj,Yk,i64_w,i32_w]
                                rfl
                              refine done_ (Xh HT_.out (by kernel_rfl)) ?_
                              try go_wp2
                              go_roundg k4
                              case measure => have := HJ11.out; have := HJ90.out; have := HK3.out; have := HK4.out; omega
                              case rel => exact ⟨(wrap64 ((rd (rd_L4 t239 x29_3) x30_4) + t195)),(wrap64 (x30_4 + 1)),(by first | rfl | (simp; done) | (simp [*]; done)),(by first | rfl | (simp; done) | (simp [*]; done)),H',⟨by have := HJ11.out; have := HJ90.out; have := HK3.out; have := HK4.out; omega⟩,⟨by (with_reducible repeat (first | apply Kd.ZH | apply Kd.ZI | apply Kd.ZG)); exact HO_19.out⟩,⟨by (with_reducible repeat (first | refine Zc ?_ _ | refine Ze ?_ | refine Zd ?_ _)); exact BK190.out⟩,⟨by (with_reducible repeat (first | refine Zc ?_ _ | refine Ze ?_ | refine Zd ?_ _)); exact BK191.out⟩,⟨by (with_reducible repeat (first | refine Zc ?_ _ | refine Ze ?_ | refine Zd ?_ _)); exact BK192.out⟩,⟨by (with_reducible repeat (first | refine Zc ?_ _ | refine Ze ?_ | refine Zd ?_ _)); exact BK200.out⟩,⟨by (with_reducible repeat (first | refine Zc ?_ _ | refine Ze ?_ | refine Zd ?_ _)); exact BK208.out⟩,⟨by (with_reducible repeat (first | refine Zc ?_ _ | refine Ze ?_ | refine Zd ?_ _)); exact BK234.out⟩,⟨by repeat (first | (with_reducible first | exact HB.out | apply Zk | apply Zi | apply Zj | refine Zf ?_ GE190.out | refine Zf ?_ GE191.out | refine Zf ?_ GE192.out | refine Zf ?_ GE200.out | refine Zf ?_ GE208.out | refine Zf ?_ GE234.out) | exact HB.out)⟩⟩
                            · rw [if_neg c206] at H
                              have c206b0 : ((Int.tmod (rd (rd_L4 t239 x29_3) x30_4) t197) == 0) = false := beq_eq_false_iff_ne.mpr c206; have c206b1 : ((Int.tmod (rd (rd_L4 t239 x29_3) x30_4) t197) != 0) = true := bne_iff_ne.mpr c206; obtain rfl := Option.some.inj H; have p245 : 0 ≤ (x29_3 : Int) := of_decide_eq_true (by first | (with_reducible assumption) | assumption); have q245 : x29_3 < (t239.length : Int) := of_decide_eq_true (by first | (with_reducible assumption) | assumption); obtain ⟨ad245,A245_0,c245_0,e245,hx245_0,hl245_0,hi245_0⟩ := at_L4 (Kd.ZJ HO_19.out).2.2 x29_3 p245 q245
                              cases e245
                              obtain ⟨ce245,hce245,hMe245,hcc245⟩ := Kd.S_get HO_19.out [] x29_3 p245 (by first | exact q245 | exact of_decide_eq_true (by first | (with_reducible assumption) | assumption) | (have e_ := (Kd.ZJ HO_19.out).1; omega)); obtain ⟨ve245_0,rfl,ge245_0⟩ := hMe245; have hv245_0 := hcc245 0 _ rfl; rw [Nat.add_zero,show ((Kd.slice 3 (Kd.int .i64))).sz = 1 from rfl,Nat.mul_one] at hv245_0; replace hv245_0 := Option.some.inj (hv245_0.symm.trans hx245_0); rw [hv245_0] at ge245_0; have HL245_0 := Zh.mk (show Kd.R (Kd.int .i64) 3 _ _ _ _ (rd_L4 t239 x29_3) from ge245_0); clear hv245_0 ge245_0; clear hcc245 hce245; have HR245_0 := Zh.mk hi245_0; have HC245_0 := Zh.mk hl245_0; clear hi245_0 hl245_0; replace p245 := eq_true p245; replace q245 := eq_true q245
                              try go_wp2
                              have n0_ := Zh.mk (Kd.ZG HO_19.out); have n1_ := Zh.mk (Kd.X4 HL245_0.out); have n2_ := Zh.mk (Ze BK190.out); have n3_ := Zh.mk (Ze BK191.out); have n4_ := Zh.mk (Ze BK192.out); have n5_ := Zh.mk (Ze BK200.out); have n6_ := Zh.mk (Ze BK208.out); have n7_ := Zh.mk (Ze BK234.out); have n8_ := Zh.mk (Kd.ZX HR245_0.out); have n9_ := Zh.mk (Zj HB.out); clear HO_19; clear HL245_0; clear BK190; clear BK191; clear BK192; clear BK200; clear BK208; clear BK234; clear HR245_0; clear HB; have HO_19 := n0_; have HL245_0 := n1_; have BK190 := n2_; have BK191 := n3_; have BK192 := n4_; have BK200 := n5_; have BK208 := n6_; have BK234 := n7_; have HR245_0 := n8_; have HB := n9_; clear n0_ n1_ n2_ n3_ n4_ n5_ n6_ n7_ n8_ n9_; have p246 : 0 ≤ (x29_3 : Int) := of_decide_eq_true (by first | (with_reducible assumption) | assumption); have q246 : x29_3 < (t239.length : Int) := of_decide_eq_true (by first | (with_reducible assumption) | assumption); obtain ⟨ad246,A246_0,c246_0,e246,hx246_0,hl246_0,hi246_0⟩ := at_L4 (Kd.ZJ HO_19.out).2.2 x29_3 p246 q246
                              obtain rfl : ad245 = ad246 := (by injection e246)
                              obtain ⟨ce246,hce246,hMe246,hcc246⟩ := Kd.S_get HO_19.out [] x29_3 p246 (by first | exact q246 | exact of_decide_eq_true (by first | (with_reducible assumption) | assumption) | (have e_ := (Kd.ZJ HO_19.out).1; omega)); obtain ⟨ve246_0,rfl,ge246_0⟩ := hMe246; have hv246_0 := hcc246 0 _ rfl; rw [Nat.add_zero,show ((Kd.slice 3 (Kd.int .i64))).sz = 1 from rfl,Nat.mul_one] at hv246_0; replace hv246_0 := Option.some.inj (hv246_0.symm.trans hx246_0); rw [hv246_0] at ge246_0; have HL246_0 := Zh.mk (show Kd.R (Kd.int .i64) 3 _ _ _ _ (rd_L4 t239 x29_3) from ge246_0); clear hv246_0 ge246_0; clear hcc246 hce246; have HR246_0 := Zh.mk hi246_0; have HC246_0 := Zh.mk hl246_0; clear hi246_0 hl246_0; replace p246 := eq_true p246; replace q246 := eq_true q246; have p247 : 0 ≤ (x30_4 : Int) := of_decide_eq_true (by first | (with_reducible assumption) | assumption); have q247 : x30_4 < ((rd_L4 t239 x29_3).length : Int) := of_decide_eq_true (by first | (with_reducible assumption) | assumption); obtain ⟨ad247,e247,hx247_0⟩ := Kd.X2 (by repeat (first | (with_reducible exact HR246_0.out) | (with_reducible refine Kd.ZV ?_ _) | (with_reducible refine Kd.ZW ?_ _) | (with_reducible refine Kd.ZX ?_) | exact HR246_0.out)) x30_4 p247 q247
                              cases e247
                              replace p247 := eq_true p247; replace q247 := eq_true q247; have p248 : 0 ≤ (x29_3 : Int) := of_decide_eq_true (by first | (with_reducible assumption) | assumption); have q248 : x29_3 < (t239.length : Int) := of_decide_eq_true (by first | (with_reducible assumption) | assumption); obtain ⟨ad248,A248_0,c248_0,e248,hx248_0,hl248_0,hi248_0⟩ := at_L4 (Kd.ZJ HO_19.out).2.2 x29_3 p248 q248
                              obtain rfl : ad245 = ad248 := (by injection e248)
                              obtain ⟨ce248,hce248,hMe248,hcc248⟩ := Kd.S_get HO_19.out [] x29_3 p248 (by first | exact q248 | exact of_decide_eq_true (by first | (with_reducible assumption) | assumption) | (have e_ := (Kd.ZJ HO_19.out).1; omega)); obtain ⟨ve248_0,rfl,ge248_0⟩ := hMe248; have hv248_0 := hcc248 0 _ rfl; rw [Nat.add_zero,show ((Kd.slice 3 (Kd.int .i64))).sz = 1 from rfl,Nat.mul_one] at hv248_0; replace hv248_0 := Option.some.inj (hv248_0.symm.trans hx248_0); rw [hv248_0] at ge248_0; have HL248_0 := Zh.mk (show Kd.R (Kd.int .i64) 3 _ _ _ _ (rd_L4 t239 x29_3) from ge248_0); clear hv248_0 ge248_0; clear hcc248 hce248; have HR248_0 := Zh.mk hi248_0; have HC248_0 := Zh.mk hl248_0; clear hi248_0 hl248_0; replace p248 := eq_true p248; replace q248 := eq_true q248; have ea_ := Option.some.inj (hx246_0.symm.trans hx248_0)
                              injection ea_ with ea_ en_ ec_
                              subst ea_; subst ec_; clear en_; have p249 : 0 ≤ (x30_4 : Int) := of_decide_eq_true (by first | (with_reducible assumption) | assumption); have q249 : x30_4 < ((rd_L4 t239 x29_3).length : Int) := of_decide_eq_true (by first | (with_reducible assumption) | assumption); obtain ⟨ad249,e249,hx249_0⟩ := Kd.X2 (by repeat (first | (with_reducible exact HR248_0.out) | (with_reducible refine Kd.ZV ?_ _) | (with_reducible refine Kd.ZW ?_ _) | (with_reducible refine Kd.ZX ?_) | exact HR248_0.out)) x30_4 p249 q249
                              cases e249
                              replace p249 := eq_true p249; replace q249 := eq_true q249; refine Xk (n := 22) (S := fun w' => w'.cell? ⟨gb200,0,none⟩ = some (.int .i64 t193) ∧ w'.cell? ⟨gb200,1,none⟩ = some (.int .i64 t194) ∧ w'.cell? ⟨gb200,2,none⟩ = some (.int .i64 t195) ∧ w'.cell? ⟨gb200,3,none⟩ = some (.int .i64 t196) ∧ w'.cell? ⟨gb200,4,none⟩ = some (.int .i64 t197) ∧ w'.cell? ⟨gb200,5,none⟩ = some (.int .i64 t198) ∧ w'.cell? (ad245.add (x29_3).toNat) = some (.slice (some ad247) (rd_L4 t239 x29_3).length c246_0) ∧ w'.cell? (ad247.add (x30_4).toNat) = some (.int .i64 (rd (rd_L4 t239 x29_3) x30_4)) ∧ w'.cell? (ad245.add (x29_3).toNat) = some (.slice (some ad247) (rd_L4 t239 x29_3).length c246_0) ∧ w'.cell? (ad247.add (x30_4).toNat) = some (.int .i64 (rd (rd_L4 t239 x29_3) x30_4))) (ds := []) #[U,U,U,U,U,U,U,U,U,U,U,U,U,U,U,U,U,U,U,U,U,U] (by kernel_rfl) rfl rfl ⟨(Za BK200.out 0).trans rfl,(Za BK200.out 1).trans rfl,(Za BK200.out 2).trans rfl,(Za BK200.out 3).trans rfl,(Za BK200.out 4).trans rfl,(Za BK200.out 5).trans rfl,hx246_0,hx247_0,hx248_0,hx249_0⟩ (fun hHeld => ?_); refine Xb Zg.tab24 Zg.bits24 (fun HT_ HW_ => ?_); generalize wr.drew = w209 at HO_19 HL245_0 BK190 BK191 BK192 BK200 BK208 BK234 HR245_0 HB HL246_0 HL248_0 HR246_0 HR248_0 hx246_0 hx247_0 hx248_0 hx249_0 hHeld ⊢; refine pure_ (i := 0) (N := some 178) (v := ?_) (a' := ?_) #[Y,U,U,U,U,U,U,U,U,U,U,U,U,U,U,U,U,U,U,U,U,U] rfl rfl (Zo HT_.out (by kernel_rfl)) (fun _ _ _ h => h) (Or.inl ⟨by rfl,?_⟩) ?_ ?_; rotate_left
                              · intro w'
                                go_simp; with_reducible rfl
                              rotate_left
                              · simp only [Act.put,Yi,Yj,Yk,i64_w,i32_w]
                                rfl
                              refine pure_ (i := 1) (N := some 179) (v := ?_) (a' := ?_) #[Y,Y,U,U,U,U,U,U,U,U,U,U,U,U,U,U,U,U,U,U,U,U] rfl rfl (Zo HT_.out (by kernel_rfl)) (fun _ _ _ h => h) (Or.inl ⟨by rfl,?_⟩) ?_ ?_; rotate_left
                              · intro w'
                                go_simp; with_reducible rfl
                              rotate_left
                              · simp only [Act.put,Yi,Yj,Yk,i64_w,i32_w]
                                rfl
                              refine pure_ (i := 2) (N := some 180) (v := ?_) (a' := ?_) #[Y,Y,Y,U,U,U,U,U,U,U,U,U,U,U,U,U,U,U,U,U,U,U] rfl rfl (Zo HT_.out (by kernel_rfl)) (fun _ _ _ h => h) (Or.inl ⟨by rfl,?_⟩) ?_ ?_; rotate_left
                              · intro w'
                                go_simp; with_reducible rfl
                              rotate_left
                              · simp only [Act.put,Yi,Yj,Yk,i64_w,i32_w]
                                rfl
                              refine pure_ (i := 4) (N := some 182) (v := ?_) (a' := ?_) #[Y,Y,Y,U,Y,U,U,U,U,U,U,U,U,U,U,U,U,U,U,U,U,U] rfl rfl (Zo HT_.out (by kernel_rfl)) (fun _ _ _ h => h) (Or.inl ⟨by rfl,?_⟩) ?_ ?_; rotate_left
                              · intro w'
                                go_simp; with_reducible rfl
                              rotate_left
                              · simp only [Act.put,Yi,Yj,Yk,i64_w,i32_w]
                                rfl
                              refine pure_ (i := 7) (N := some 185) (v := ?_) (a' := ?_) #[Y,Y,Y,U,Y,U,U,Y,U,U,U,U,U,U,U,U,U,U,U,U,U,U] rfl rfl (Zo HT_.out (by kernel_rfl)) (fun _ _ _ h => h) (Or.inl ⟨by rfl,?_⟩) ?_ ?_; rotate_left
                              · intro w'
                                go_simp; with_reducible rfl
                              rotate_left
                              · simp only [Act.put,Yi,Yj,Yk,i64_w,i32_w]
                                rfl
                              refine take_ (i := 3) (N := some 181) (v := ?_) (a' := ?_) #[Y,Y,Y,Y,Y,U,U,Y,U,U,U,U,U,U,U,U,U,U,U,U,U,U] rfl rfl (Z8 HT_.out HW_.out (by kernel_rfl)) (fun _ _ _ h => h) (Or.inl ⟨by rfl,?_⟩) hHeld ?_ ?_; rotate_left
                              · rintro w' ⟨s0,s1,s2,s3,s4,s5,s6,s7,s8,s9⟩
                                go_simp; with_reducible rfl
                              rotate_left
                              · simp only [Act.put,Yi,Yj,Yk,i64_w,i32_w]
                                rfl
                              refine pure_ (i := 5) (N := some 183) (v := ?_) (a' := ?_) #[Y,Y,Y,Y,Y,Y,U,Y,U,U,U,U,U,U,U,U,U,U,U,U,U,U] rfl rfl (Zo HT_.out (by kernel_rfl)) (fun _ _ _ h => h) (Or.inl ⟨by rfl,?_⟩) ?_ ?_; rotate_left
                              · intro w'
                                go_simp; with_reducible rfl
                              rotate_left
                              · simp only [Act.put,Yi,Yj,Yk,i64_w,i32_w]
                                rfl
                              refine take_ (i := 6) (N := some 184) (v := ?_) (a' := ?_) #[Y,Y,Y,Y,Y,Y,Y,Y,U,U,U,U,U,U,U,U,U,U,U,U,U,U] rfl rfl (Z8 HT_.out HW_.out (by kernel_rfl)) (fun _ _ _ h => h) (Or.inl ⟨by rfl,?_⟩) hHeld ?_ ?_; rotate_left
                              · rintro w' ⟨s0,s1,s2,s3,s4,s5,s6,s7,s8,s9⟩
                                go_simp; with_reducible rfl
                              rotate_left
                              · simp only [Act.put,Yi,Yj,Yk,i64_w,i32_w]
                                rfl
                              refine pure_ (i := 8) (N := some 186) (v := ?_) (a' := ?_) #[Y,Y,Y,Y,Y,Y,Y,Y,Y,U,U,U,U,U,U,U,U,U,U,U,U,U] rfl rfl (Zo HT_.out (by kernel_rfl)) (fun _ _ _ h => h) (Or.inl ⟨by rfl,?_⟩) ?_ ?_; rotate_left
                              · intro w'
                                go_simp; with_reducible rfl
                              rotate_left
                              · simp only [Act.put,Yi,Yj,Yk,i64_w,i32_w]
                                rfl
                              refine pure_ (i := 9) (N := some 187) (v := ?_) (a' := ?_) #[Y,Y,Y,Y,Y,Y,Y,Y,Y,Y,U,U,U,U,U,U,U,U,U,U,U,U] rfl rfl (Zo HT_.out (by kernel_rfl)) (fun _ _ _ h => h) (Or.inl ⟨by rfl,?_⟩) ?_ ?_; rotate_left
                              · intro w'
                                go_simp; with_reducible rfl
                              rotate_left
                              · simp only [Act.put,Yi,Yj,Yk,i64_w,i32_w]
                                rfl
                              refine pure_ (i := 10) (N := some 188) (v := ?_) (a' := ?_) #[Y,Y,Y,Y,Y,Y,Y,Y,Y,Y,Y,U,U,U,U,U,U,U,U,U,U,U] rfl rfl (Zo HT_.out (by kernel_rfl)) (fun _ _ _ h => h) (Or.inl ⟨by rfl,?_⟩) ?_ ?_; rotate_left
                              · intro w'
                                go_simp; with_reducible rfl
                              rotate_left
                              · simp only [Act.put,Yi,Yj,Yk,i64_w,i32_w]
                                rfl
                              refine pure_ (i := 11) (N := some 189) (v := ?_) (a' := ?_) #[Y,Y,Y,Y,Y,Y,Y,Y,Y,Y,Y,Y,U,U,U,U,U,U,U,U,U,U] rfl rfl (Zo HT_.out (by kernel_rfl)) (fun _ _ _ h => h) (Or.inl ⟨by rfl,?_⟩) ?_ ?_; rotate_left
                              · intro w'
                                go_simp; with_reducible rfl
                              rotate_left
                              · simp only [Act.put,Yi,Yj,Yk,i64_w,i32_w]
                                rfl
                              refine pure_ (i := 12) (N := some 190) (v := ?_) (a' := ?_) #[Y,Y,Y,Y,Y,Y,Y,Y,Y,Y,Y,Y,Y,U,U,U,U,U,U,U,U,U] rfl rfl (Zo HT_.out (by kernel_rfl)) (fun _ _ _ h => h) (Or.inl ⟨by rfl,?_⟩) ?_ ?_; rotate_left
                              · intro w'
                                go_simp; with_reducible rfl
                              rotate_left
                              · simp only [Act.put,Yi,Yj,Yk,i64_w,i32_w]
                                rfl
                              refine pure_ (i := 14) (N := some 192) (v := ?_) (a' := ?_) #[Y,Y,Y,Y,Y,Y,Y,Y,Y,Y,Y,Y,Y,U,Y,U,U,U,U,U,U,U] rfl rfl (Zo HT_.out (by kernel_rfl)) (fun _ _ _ h => h) (Or.inl ⟨by rfl,?_⟩) ?_ ?_; rotate_left
                              · intro w'
                                go_simp; with_reducible rfl
                              rotate_left
                              · simp only [Act.put,Yi,Yj,Yk,i64_w,i32_w]
                                rfl
                              refine pure_ (i := 17) (N := some 195) (v := ?_) (a' := ?_) #[Y,Y,Y,Y,Y,Y,Y,Y,Y,Y,Y,Y,Y,U,Y,U,U,Y,U,U,U,U] rfl rfl (Zo HT_.out (by kernel_rfl)) (fun _ _ _ h => h) (Or.inl ⟨by rfl,?_⟩) ?_ ?_; rotate_left
                              · intro w'
                                go_simp; with_reducible rfl
                              rotate_left
                              · simp only [Act.put,Yi,Yj,Yk,i64_w,i32_w]
                                rfl
                              refine take_ (i := 13) (N := some 191) (v := ?_) (a' := ?_) #[Y,Y,Y,Y,Y,Y,Y,Y,Y,Y,Y,Y,Y,Y,Y,U,U,Y,U,U,U,U] rfl rfl (Z8 HT_.out HW_.out (by kernel_rfl)) (fun _ _ _ h => h) (Or.inl ⟨by rfl,?_⟩) hHeld ?_ ?_; rotate_left
                              · rintro w' ⟨s0,s1,s2,s3,s4,s5,s6,s7,s8,s9⟩
                                go_simp; with_reducible rfl
                              rotate_left
                              · simp only [Act.put,Yi,Yj,Yk,i64_w,i32_w]
                                rfl
                              refine pure_ (i := 15) (N := some 193) (v := ?_) (a' := ?_) #[Y,Y,Y,Y,Y,Y,Y,Y,Y,Y,Y,Y,Y,Y,Y,Y,U,Y,U,U,U,U] rfl rfl (Zo HT_.out (by kernel_rfl)) (fun _ _ _ h => h) (Or.inl ⟨by rfl,?_⟩) ?_ ?_; rotate_left
                              · intro w'
                                go_simp; with_reducible rfl
                              rotate_left
                              · simp only [Act.put,Yi,Yj,Yk,i64_w,i32_w]
                                rfl
                              refine take_ (i := 16) (N := some 194) (v := ?_) (a' := ?_) #[Y,Y,Y,Y,Y,Y,Y,Y,Y,Y,Y,Y,Y,Y,Y,Y,Y,Y,U,U,U,U] rfl rfl (Z8 HT_.out HW_.out (by kernel_rfl)) (fun _ _ _ h => h) (Or.inl ⟨by rfl,?_⟩) hHeld ?_ ?_; rotate_left
                              · rintro w' ⟨s0,s1,s2,s3,s4,s5,s6,s7,s8,s9⟩
                                go_simp; with_reducible rfl
                              rotate_left
                              · simp only [Act.put,Yi,Yj,Yk,i64_w,i32_w]
                                rfl
                              refine take_ (i := 18) (N := some 196) (v := ?_) (a' := ?_) #[Y,Y,Y,Y,Y,Y,Y,Y,Y,Y,Y,Y,Y,Y,Y,Y,Y,Y,Y,U,U,U] rfl rfl (Z8 HT_.out HW_.out (by kernel_rfl)) (fun _ _ _ h => h) (Or.inl ⟨by rfl,?_⟩) hHeld ?_ ?_; rotate_left
                              · rintro w' ⟨s0,s1,s2,s3,s4,s5,s6,s7,s8,s9⟩
                                go_simp; with_reducible rfl
                              rotate_left
                              · simp only [Act.put,Yi,Yj,Yk,i64_w,i32_w]
                                rfl
                              refine pure_ (i := 19) (N := some 197) (v := ?_) (a' := ?_) #[Y,Y,Y,Y,Y,Y,Y,Y,Y,Y,Y,Y,Y,Y,Y,Y,Y,Y,Y,Y,U,U] rfl rfl (Zo HT_.out (by kernel_rfl)) (fun _ _ _ h => h) (Or.inl ⟨by rfl,?_⟩) ?_ ?_; rotate_left
                              · intro w'
                                go_simp; with_reducible rfl
                              rotate_left
                              · simp only [Act.put,Yi,Yj,Yk,i64_w,i32_w]
                                rfl
                              refine pure_ (i := 20) (N := some 198) (v := ?_) (a' := ?_) #[Y,Y,Y,Y,Y,Y,Y,Y,Y,Y,Y,Y,Y,Y,Y,Y,Y,Y,Y,Y,Y,U] rfl rfl (Zo HT_.out (by kernel_rfl)) (fun _ _ _ h => h) (Or.inl ⟨by rfl,?_⟩) ?_ ?_; rotate_left
                              · intro w'
                                go_simp; with_reducible rfl
                              rotate_left
                              · simp only [Act.put,Yi,Yj,Yk,i64_w,i32_w]
                                rfl
                              refine pure_ (i := 21) (N := some 199) (v := ?_) (a' := ?_) #[Y,Y,Y,Y,Y,Y,Y,Y,Y,Y,Y,Y,Y,Y,Y,Y,Y,Y,Y,Y,Y,Y] rfl rfl (Zo HT_.out (by kernel_rfl)) (fun _ _ _ h => h) (Or.inl ⟨by rfl,?_⟩) ?_ ?_; rotate_left
                              · intro w'
                                go_simp; with_reducible rfl
                              rotate_left
                              · simp only [Act.put,Yi,Yj,Yk,i64_w,i32_w]
                                rfl
                              refine done_ (Xh HT_.out (by kernel_rfl)) ?_
                              try go_wp2
                              go_ret; exact ⟨by first | rfl | (simp [Zw,Zx] <;> rfl) | (simp [*,Zw,Zx] <;> rfl),by repeat (first | (with_reducible first | exact HB.out | apply Zk | apply Zi | apply Zj | refine Zf ?_ GE190.out | refine Zf ?_ GE191.out | refine Zf ?_ GE192.out | refine Zf ?_ GE200.out | refine Zf ?_ GE208.out | refine Zf ?_ GE234.out) | exact HB.out)⟩
                      · rw [if_neg c202] at H
                        exact absurd H (by simp)
                    · rw [if_neg c201] at H
                      have c201b0 : decide (x30_4 < ((rd_L4 t239 x29_3).length : Int)) = false := decide_eq_false c201; clear c201; have H' := Zh.mk H; clear H; have p245 : 0 ≤ (x29_3 : Int) := of_decide_eq_true (by first | (with_reducible assumption) | assumption); have q245 : x29_3 < (t239.length : Int) := of_decide_eq_true (by first | (with_reducible assumption) | assumption); obtain ⟨ad245,A245_0,c245_0,e245,hx245_0,hl245_0,hi245_0⟩ := at_L4 (Kd.ZJ HO_19.out).2.2 x29_3 p245 q245
                      cases e245
                      obtain ⟨ce245,hce245,hMe245,hcc245⟩ := Kd.S_get HO_19.out [] x29_3 p245 (by first | exact q245 | exact of_decide_eq_true (by first | (with_reducible assumption) | assumption) | (have e_ := (Kd.ZJ HO_19.out).1; omega)); obtain ⟨ve245_0,rfl,ge245_0⟩ := hMe245; have hv245_0 := hcc245 0 _ rfl; rw [Nat.add_zero,show ((Kd.slice 3 (Kd.int .i64))).sz = 1 from rfl,Nat.mul_one] at hv245_0; replace hv245_0 := Option.some.inj (hv245_0.symm.trans hx245_0); rw [hv245_0] at ge245_0; have HL245_0 := Zh.mk (show Kd.R (Kd.int .i64) 3 _ _ _ _ (rd_L4 t239 x29_3) from ge245_0); clear hv245_0 ge245_0; clear hcc245 hce245; have HR245_0 := Zh.mk hi245_0; have HC245_0 := Zh.mk hl245_0; clear hi245_0 hl245_0; replace p245 := eq_true p245; replace q245 := eq_true q245
                      go_wp2
                      go_roundg k4
                      case measure => have := HJ11.out; have := HJ90.out; have := HK3.out; have := HK4.out; omega
                      case rel => exact ⟨(x28_4),(wrap64 (x29_3 + 1)),(by first | rfl | (simp; done) | (simp [*]; done)),(by first | rfl | (simp; done) | (simp [*]; done)),H',⟨by have := HJ11.out; have := HJ90.out; have := HK3.out; have := HK4.out; omega⟩,⟨by (with_reducible repeat (first | apply Kd.ZH | apply Kd.ZI | apply Kd.ZG)); exact HO_19.out⟩,⟨by (with_reducible repeat (first | refine Zc ?_ _ | refine Ze ?_ | refine Zd ?_ _)); exact BK190.out⟩,⟨by (with_reducible repeat (first | refine Zc ?_ _ | refine Ze ?_ | refine Zd ?_ _)); exact BK191.out⟩,⟨by (with_reducible repeat (first | refine Zc ?_ _ | refine Ze ?_ | refine Zd ?_ _)); exact BK192.out⟩,⟨by (with_reducible repeat (first | refine Zc ?_ _ | refine Ze ?_ | refine Zd ?_ _)); exact BK200.out⟩,⟨by (with_reducible repeat (first | refine Zc ?_ _ | refine Ze ?_ | refine Zd ?_ _)); exact BK208.out⟩,⟨by (with_reducible repeat (first | refine Zc ?_ _ | refine Ze ?_ | refine Zd ?_ _)); exact BK234.out⟩,⟨by repeat (first | (with_reducible first | exact HB.out | apply Zk | apply Zi | apply Zj | refine Zf ?_ GE190.out | refine Zf ?_ GE191.out | refine Zf ?_ GE192.out | refine Zf ?_ GE200.out | refine Zf ?_ GE208.out | refine Zf ?_ GE234.out) | exact HB.out)⟩⟩
                  · rw [if_neg c200] at H
                    exact absurd H (by simp)
                · rw [if_neg c199] at H
                  exact absurd H (by simp)
            · rw [if_neg c197] at H
              have c197b0 : decide (x29_3 < (t239.length : Int)) = false := decide_eq_false c197; clear c197
              by_cases c210 : t243 = 0
              · rw [if_pos c210] at H
                have c210b0 : (t243 == 0) = true := beq_iff_eq.mpr c210; have c210b1 : (t243 != 0) = false := bne_eq_false_iff_eq.mpr c210; clear c210
                by_cases c211 : (t239.length : Int) = t193
                · rw [if_pos c211] at H
                  have c211b0 : ((t239.length : Int) == t193) = true := beq_iff_eq.mpr c211; have c211b1 : ((t239.length : Int) != t193) = false := bne_eq_false_iff_eq.mpr c211; clear c211
                  by_cases c212 : x28_3 = t242
                  · rw [if_pos c212] at H
                    have c212b0 : (x28_3 == t242) = true := beq_iff_eq.mpr c212; have c212b1 : (x28_3 != t242) = false := bne_eq_false_iff_eq.mpr c212; clear c212; replace H := Option.bind_eq_some_iff.mp H; obtain ⟨t244,A2130,H⟩ := H; replace H : (some t244) = some r := H; have A213 := Zh.mk A2130; clear A2130; obtain rfl := Option.some.inj H; obtain ⟨Ao214,co214,eo214⟩ := Kd.Xm HO_19.out; subst eo214; have hnb215 := NB200_190.out; have hnc215 := NB190_200.out; have hnb216 := NB200_191.out; have hnc216 := NB191_200.out; have hnb217 := NB200_192.out; have hnc217 := NB192_200.out; have hnb218 := NB200_208.out; have hnc218 := NB208_200.out; have hnb219 := NB200_234.out; have hnc219 := NB234_200.out; have hcz220_0 : wr.cell? ⟨gb200,0,none⟩ = some (.int .i64 t193) := (Za BK200.out 0).trans rfl; have hcz220_1 : wr.cell? ⟨gb200,1,none⟩ = some (.int .i64 t194) := (Za BK200.out 1).trans rfl; have hcz220_2 : wr.cell? ⟨gb200,2,none⟩ = some (.int .i64 t195) := (Za BK200.out 2).trans rfl; have hcz220_3 : wr.cell? ⟨gb200,3,none⟩ = some (.int .i64 t196) := (Za BK200.out 3).trans rfl; have hcz220_4 : wr.cell? ⟨gb200,4,none⟩ = some (.int .i64 t197) := (Za BK200.out 4).trans rfl; have hcz220_5 : wr.cell? ⟨gb200,5,none⟩ = some (.int .i64 t198) := (Za BK200.out 5).trans rfl; have hfz220_0 := Zb BK200.out 0; have hfz220_1 := Zb BK200.out 1; have hfz220_2 := Zb BK200.out 2; have hfz220_3 := Zb BK200.out 3; have hfz220_4 := Zb BK200.out 4; have hfz220_5 := Zb BK200.out 5
                    go_wp2_with (first | (go_at_call 14; (with_reducible refine (Z7.calls k3  t244 _ A213.out).mono ?_); rintro e w221 ⟨rfl,hb⟩; have n0_ := Zh.mk (Kd.ZN (by (with_reducible repeat (first | apply Kd.ZH | apply Kd.ZI | apply Kd.ZG)); exact HO_19.out) hb); have n1_ := Zh.mk (Zn (g := gb190) (o := .cells #[.int .i64 a0_0,.int .i64 a0_1,.int .i64 a0_2,.int .i64 a0_3,.int .i64 a0_4,.int .i64 a0_5,.int .i64 a0_6] 23 (0,0)) (by (with_reducible repeat (first | refine Zc ?_ _ | refine Ze ?_ | refine Zd ?_ _)); exact BK190.out) hb); have n2_ := Zh.mk (Zn (g := gb191) (o := .cells #[.int .i64 a1_0,.int .i64 a1_1,.int .i64 a1_2,.int .i64 a1_3,.int .i64 a1_4,.int .i64 a1_5,.int .i64 a1_6] 23 (0,0)) (by (with_reducible repeat (first | refine Zc ?_ _ | refine Ze ?_ | refine Zd ?_ _)); exact BK191.out) hb); have n3_ := Zh.mk (Zn (g := gb192) (o := .cells #[.int .i64 a3_0,.int .i64 a3_1,.int .i64 a3_2,.int .i64 a3_3,.int .i64 a3_4,.int .i64 a3_5] 25 (0,0)) (by (with_reducible repeat (first | refine Zc ?_ _ | refine Ze ?_ | refine Zd ?_ _)); exact BK192.out) hb); have n4_ := Zh.mk (Zn (g := gb200) (o := .cells #[.int .i64 t193,.int .i64 t194,.int .i64 t195,.int .i64 t196,.int .i64 t197,.int .i64 t198] 25 (0,0)) (by (with_reducible repeat (first | refine Zc ?_ _ | refine Ze ?_ | refine Zd ?_ _)); exact BK200.out) hb); have n5_ := Zh.mk (Zn (g := gb208) (o := .cells #[.int .i64 t201,.int .i64 t202,.int .i64 t203,.int .i64 t204,.int .i64 t205,.int .i64 t206] 25 (0,0)) (by (with_reducible repeat (first | refine Zc ?_ _ | refine Ze ?_ | refine Zd ?_ _)); exact BK208.out) hb); have n6_ := Zh.mk (Zn (g := gb234) (o := .cells #[.int .i64 t227,.int .i64 t228,.int .i64 t229,.int .i64 t230,.int .i64 t231,.int .i64 t232] 25 (0,0)) (by (with_reducible repeat (first | refine Zc ?_ _ | refine Ze ?_ | refine Zd ?_ _)); exact BK234.out) hb); have n7_ := Zh.mk (Zv (by repeat (first | (with_reducible first | exact HB.out | apply Zk | apply Zi | apply Zj | refine Zf ?_ GE190.out | refine Zf ?_ GE191.out | refine Zf ?_ GE192.out | refine Zf ?_ GE200.out | refine Zf ?_ GE208.out | refine Zf ?_ GE234.out) | exact HB.out)) hb); clear HO_19; clear BK190; clear BK191; clear BK192; clear BK200; clear BK208; clear BK234; clear HB; have HO_19 := n0_; have BK190 := n1_; have BK191 := n2_; have BK192 := n3_; have BK200 := n4_; have BK208 := n5_; have BK234 := n6_; have HB := n7_; clear n0_ n1_ n2_ n3_ n4_ n5_ n6_ n7_; (try clear hb); (try clear hb2); (try clear hk); (try clear hi)))
                    go_ret; exact ⟨by first | rfl | (simp [Zw,Zx] <;> rfl) | (simp [*,Zw,Zx] <;> rfl),by repeat (first | (with_reducible first | exact HB.out | apply Zk | apply Zi | apply Zj | refine Zf ?_ GE190.out | refine Zf ?_ GE191.out | refine Zf ?_ GE192.out | refine Zf ?_ GE200.out | refine Zf ?_ GE208.out | refine Zf ?_ GE234.out) | exact HB.out)⟩
                  · rw [if_neg c212] at H
                    have c212b0 : (x28_3 == t242) = false := beq_eq_false_iff_ne.mpr c212; have c212b1 : (x28_3 != t242) = true := bne_iff_ne.mpr c212; obtain rfl := Option.some.inj H; obtain ⟨Ao222,co222,eo222⟩ := Kd.Xm HO_19.out; subst eo222; have hnb223 := NB200_190.out; have hnc223 := NB190_200.out; have hnb224 := NB200_191.out; have hnc224 := NB191_200.out; have hnb225 := NB200_192.out; have hnc225 := NB192_200.out; have hnb226 := NB200_208.out; have hnc226 := NB208_200.out; have hnb227 := NB200_234.out; have hnc227 := NB234_200.out; have hcz228_0 : wr.cell? ⟨gb200,0,none⟩ = some (.int .i64 t193) := (Za BK200.out 0).trans rfl; have hcz228_1 : wr.cell? ⟨gb200,1,none⟩ = some (.int .i64 t194) := (Za BK200.out 1).trans rfl; have hcz228_2 : wr.cell? ⟨gb200,2,none⟩ = some (.int .i64 t195) := (Za BK200.out 2).trans rfl; have hcz228_3 : wr.cell? ⟨gb200,3,none⟩ = some (.int .i64 t196) := (Za BK200.out 3).trans rfl; have hcz228_4 : wr.cell? ⟨gb200,4,none⟩ = some (.int .i64 t197) := (Za BK200.out 4).trans rfl; have hcz228_5 : wr.cell? ⟨gb200,5,none⟩ = some (.int .i64 t198) := (Za BK200.out 5).trans rfl; have hfz228_0 := Zb BK200.out 0; have hfz228_1 := Zb BK200.out 1; have hfz228_2 := Zb BK200.out 2; have hfz228_3 := Zb BK200.out 3; have hfz228_4 := Zb BK200.out 4; have hfz228_5 := Zb BK200.out 5
                    go_wp2
                    go_ret; exact ⟨by first | rfl | (simp [Zw,Zx] <;> rfl) | (simp [*,Zw,Zx] <;> rfl),by repeat (first | (with_reducible first | exact HB.out | apply Zk | apply Zi | apply Zj | refine Zf ?_ GE190.out | refine Zf ?_ GE191.out | refine Zf ?_ GE192.out | refine Zf ?_ GE200.out | refine Zf ?_ GE208.out | refine Zf ?_ GE234.out) | exact HB.out)⟩
                · rw [if_neg c211] at H
                  have c211b0 : ((t239.length : Int) == t193) = false := beq_eq_false_iff_ne.mpr c211; have c211b1 : ((t239.length : Int) != t193) = true := bne_iff_ne.mpr c211; obtain rfl := Option.some.inj H; obtain ⟨Ao229,co229,eo229⟩ := Kd.Xm HO_19.out; subst eo229; have hnb230 := NB200_190.out; have hnc230 := NB190_200.out; have hnb231 := NB200_191.out; have hnc231 := NB191_200.out; have hnb232 := NB200_192.out; have hnc232 := NB192_200.out; have hnb233 := NB200_208.out; have hnc233 := NB208_200.out; have hnb234 := NB200_234.out; have hnc234 := NB234_200.out; have hcz235_0 : wr.cell? ⟨gb200,0,none⟩ = some (.int .i64 t193) := (Za BK200.out 0).trans rfl; have hcz235_1 : wr.cell? ⟨gb200,1,none⟩ = some (.int .i64 t194) := (Za BK200.out 1).trans rfl; have hcz235_2 : wr.cell? ⟨gb200,2,none⟩ = some (.int .i64 t195) := (Za BK200.out 2).trans rfl; have hcz235_3 : wr.cell? ⟨gb200,3,none⟩ = some (.int .i64 t196) := (Za BK200.out 3).trans rfl; have hcz235_4 : wr.cell? ⟨gb200,4,none⟩ = some (.int .i64 t197) := (Za BK200.out 4).trans rfl; have hcz235_5 : wr.cell? ⟨gb200,5,none⟩ = some (.int .i64 t198) := (Za BK200.out 5).trans rfl; have hfz235_0 := Zb BK200.out 0; have hfz235_1 := Zb BK200.out 1; have hfz235_2 := Zb BK200.out 2; have hfz235_3 := Zb BK200.out 3; have hfz235_4 := Zb BK200.out 4; have hfz235_5 := Zb BK200.out 5
                  go_wp2
                  go_ret; exact ⟨by first | rfl | (simp [Zw,Zx] <;> rfl) | (simp [*,Zw,Zx] <;> rfl),by repeat (first | (with_reducible first | exact HB.out | apply Zk | apply Zi | apply Zj | refine Zf ?_ GE190.out | refine Zf ?_ GE191.out | refine Zf ?_ GE192.out | refine Zf ?_ GE200.out | refine Zf ?_ GE208.out | refine Zf ?_ GE234.out) | exact HB.out)⟩
              · rw [if_neg c210] at H
                have c210b0 : (t243 == 0) = false := beq_eq_false_iff_ne.mpr c210; have c210b1 : (t243 != 0) = true := bne_iff_ne.mpr c210; obtain rfl := Option.some.inj H; obtain ⟨Ao236,co236,eo236⟩ := Kd.Xm HO_19.out; subst eo236
                go_wp2
                go_ret; exact ⟨by first | rfl | (simp [Zw,Zx] <;> rfl) | (simp [*,Zw,Zx] <;> rfl),by repeat (first | (with_reducible first | exact HB.out | apply Zk | apply Zi | apply Zj | refine Zf ?_ GE190.out | refine Zf ?_ GE191.out | refine Zf ?_ GE192.out | refine Zf ?_ GE200.out | refine Zf ?_ GE208.out | refine Zf ?_ GE234.out) | exact HB.out)⟩
    · rw [if_neg c87] at H
      have c87b0 : (t207 == 0) = false := beq_eq_false_iff_ne.mpr c87; have c87b1 : (t207 != 0) = true := bne_iff_ne.mpr c87; replace H := Option.bind_eq_some_iff.mp H; obtain ⟨t226,A2370,H⟩ := H; replace H : (some t226) = some r := H; have A237 := Zh.mk A2370; clear A2370; obtain rfl := Option.some.inj H
      go_wp2_with (first | ((with_reducible refine Z3 (f := 14) rfl ?_); refine ZE (some 114) rfl rfl Try.func14 (by kernel_rfl) rfl #[] rfl (by (try simp only [List.map_toArray,List.map_cons,List.map_nil]); first | done | rfl | (simp only [List.length_drop,List.length_take]; rfl)) ?_; (with_reducible refine (Z7.calls kj11  t226 _ A237.out).mono ?_); rintro e w238 ⟨rfl,hb⟩; refine ⟨_,rfl,?_⟩; have n0_ := Zh.mk (Zn (g := gb190) (o := .cells #[.int .i64 a0_0,.int .i64 a0_1,.int .i64 a0_2,.int .i64 a0_3,.int .i64 a0_4,.int .i64 a0_5,.int .i64 a0_6] 23 (0,0)) (by (with_reducible repeat (first | refine Zc ?_ _ | refine Ze ?_ | refine Zd ?_ _)); exact BK190.out) hb); have n1_ := Zh.mk (Zn (g := gb191) (o := .cells #[.int .i64 a1_0,.int .i64 a1_1,.int .i64 a1_2,.int .i64 a1_3,.int .i64 a1_4,.int .i64 a1_5,.int .i64 a1_6] 23 (0,0)) (by (with_reducible repeat (first | refine Zc ?_ _ | refine Ze ?_ | refine Zd ?_ _)); exact BK191.out) hb); have n2_ := Zh.mk (Zn (g := gb192) (o := .cells #[.int .i64 a3_0,.int .i64 a3_1,.int .i64 a3_2,.int .i64 a3_3,.int .i64 a3_4,.int .i64 a3_5] 25 (0,0)) (by (with_reducible repeat (first | refine Zc ?_ _ | refine Ze ?_ | refine Zd ?_ _)); exact BK192.out) hb); have n3_ := Zh.mk (Zn (g := gb200) (o := .cells #[.int .i64 t193,.int .i64 t194,.int .i64 t195,.int .i64 t196,.int .i64 t197,.int .i64 t198] 25 (0,0)) (by (with_reducible repeat (first | refine Zc ?_ _ | refine Ze ?_ | refine Zd ?_ _)); exact BK200.out) hb); have n4_ := Zh.mk (Zn (g := gb208) (o := .cells #[.int .i64 t201,.int .i64 t202,.int .i64 t203,.int .i64 t204,.int .i64 t205,.int .i64 t206] 25 (0,0)) (by (with_reducible repeat (first | refine Zc ?_ _ | refine Ze ?_ | refine Zd ?_ _)); exact BK208.out) hb); have n5_ := Zh.mk (Zv (by repeat (first | (with_reducible first | exact HB.out | apply Zk | apply Zi | apply Zj | refine Zf ?_ GE190.out | refine Zf ?_ GE191.out | refine Zf ?_ GE192.out | refine Zf ?_ GE200.out | refine Zf ?_ GE208.out) | exact HB.out)) hb); clear BK190; clear BK191; clear BK192; clear BK200; clear BK208; clear HB; have BK190 := n0_; have BK191 := n1_; have BK192 := n2_; have BK200 := n3_; have BK208 := n4_; have HB := n5_; clear n0_ n1_ n2_ n3_ n4_ n5_; (try clear hb); (try clear hb2); (try clear hk); (try clear hi)))
      go_ret; exact ⟨by first | rfl | (simp [Zw,Zx] <;> rfl) | (simp [*,Zw,Zx] <;> rfl),by repeat (first | (with_reducible first | exact HB.out | apply Zk | apply Zi | apply Zj | refine Zf ?_ GE190.out | refine Zf ?_ GE191.out | refine Zf ?_ GE192.out | refine Zf ?_ GE200.out | refine Zf ?_ GE208.out) | exact HB.out)⟩
end Go.Proofs.Ytcdiecgenpigbaa.PA

namespace Go.Proofs.Ytcdiecgenpigbaa.Pure
open Go.RowKit Go.Proofs.Ytcdiecgenpigbaa.PA Go.Proofs.YtcdiecgenpigbaaW.PrintWords Go.Proofs.YtcdiecgenpigbaaW.PrintLast Go.Proofs.YtcdiecgenpigbaaW.PrintMore
set_option linter.unusedVariables false
set_option linter.unusedSimpArgs false
theorem upb {α : Type} {g : Nat → Option α} (hm : ∀ k,LeO (g k) (g (k + 1))) {b : Nat} {r : α} (h : g b = some r) : ∀ k,b ≤ k → g k = some r := by
 intro k hk
 obtain ⟨d,rfl⟩ : ∃ d,k = b + d := ⟨k - b,by omega⟩
 clear hk
 induction d with
 | zero => exact h
 | succ d ih => exact hm _ _ ih
theorem in_eq (n a b : Int) : Zm.f n a b = some (inB n a b) := by
 unfold Zm.f inB
 by_cases h : a ≤ n
 · rw [if_pos h]; simp [h]
 · rw [if_neg h]; simp [h]
theorem two_run (n : Int) : Z0.f 20 n = some (decide (n = 1 ∨ n = 2 ∨ n = 4 ∨ n = 8 ∨ n = 16 ∨ n = 32 ∨ n = 64 ∨ n = 128 ∨ n = 256)) := by
 have e : ∀ (c : Int),(c = n) = (n = c) := fun c => propext ⟨Eq.symm,Eq.symm⟩
 unfold Z0.f; simp only [Z0.l0,wrap64,e]; simp only [show (2:Int) * 1 = 2 by rfl]
 by_cases h1 : n = 1
 · simp [h1]
 by_cases h2 : n = 2
 · simp [h2]
 by_cases h4 : n = 4
 · simp [h4]
 by_cases h8 : n = 8
 · simp [h8]
 by_cases h16 : n = 16
 · simp [h16]
 by_cases h32 : n = 32
 · simp [h32]
 by_cases h64 : n = 64
 · simp [h64]
 by_cases h128 : n = 128
 · simp [h128]
 by_cases h256 : n = 256
 · simp [h256]
 simp [h1,h2,h4,h8,h16,h32,h64,h128,h256]
theorem alB_fin : ∀ m : Fin 257,alB (m.val : Int) = decide ((m.val : Int) = 1 ∨ (m.val : Int) = 2 ∨ (m.val : Int) = 4 ∨ (m.val : Int) = 8 ∨ (m.val : Int) = 16 ∨ (m.val : Int) = 32 ∨ (m.val : Int) = 64 ∨ (m.val : Int) = 128 ∨ (m.val : Int) = 256) := by decide +kernel
theorem alB_two (n : Int) : alB n = decide (n = 1 ∨ n = 2 ∨ n = 4 ∨ n = 8 ∨ n = 16 ∨ n = 32 ∨ n = 64 ∨ n = 128 ∨ n = 256) := by
 by_cases h : 0 ≤ n ∧ n ≤ 256
 · have := alB_fin ⟨n.toNat,by omega⟩
   simp only [Int.toNat_of_nonneg h.1] at this; exact this
 · have h1 : alB n = false := by
    unfold alB; rw [decide_eq_false (by omega)]; rfl
   rw [h1,decide_eq_false (by omega)]
theorem Ye (k : Nat) (hk : 20 ≤ k) (n : Int) : Z0.f k n = some (alB n) := by
 rw [alB_two]; exact upb (g := fun k => Z0.f k n) (fun k => Z0.mono n k) (two_run n) k hk
theorem QV (a b : Nat) (ha : a < 256) (hb : b < 256) : Go.bits .and .i64 (a : Int) (b : Int) = ((a &&& b : Nat) : Int) := by
 have hx : a &&& b < 2 ^ 8 := Nat.and_lt_two_pow _ (by omega); show IntKind.i64.wrap ((BitVec.ofInt 64 (a : Int) &&& BitVec.ofInt 64 (b : Int)).toNat : Int) = _; rw [BitVec.toNat_and,BitVec.ofInt_natCast,BitVec.ofInt_natCast,BitVec.toNat_ofNat,BitVec.toNat_ofNat,Nat.mod_eq_of_lt (by omega),Nat.mod_eq_of_lt (by omega)]; rw [IntKind.wrap_i64]; omega
theorem bit_fin : ∀ m : Fin 256,∀ j : Fin 8,Z2.f 20 (m.val : Int) (j.val : Int) = some (m.val.testBit j.val) := by decide +kernel
theorem sh_fin : ∀ m : Fin 256,∀ j : Fin 8,Go.bits .and .i64 (shr .i64 (m.val : Int) (j.val : Int)) 1 = if m.val.testBit j.val then 1 else 0 := by decide +kernel
theorem QQ (k : Nat) (hk : 20 ≤ k) (m j : Nat) (hm : m < 256) (hj : j < 8) : Z2.f k (m : Int) (j : Int) = some (m.testBit j) :=
 upb (g := fun k => Z2.f k (m : Int) (j : Int)) (fun k => Z2.mono (m : Int) (j : Int) k) (bit_fin ⟨m,hm⟩ ⟨j,hj⟩) k hk
theorem sh_eq (m j : Nat) (hm : m < 256) (hj : j < 8) : Go.bits .and .i64 (shr .i64 (m : Int) (j : Int)) 1 = if m.testBit j then 1 else 0 := sh_fin ⟨m,hm⟩ ⟨j,hj⟩
theorem XR (k : Nat) (hk : 20 ≤ k) (a0 a1 a2 a3 a4 a5 a6 : Int) : Zs.f k a0 a1 a2 a3 a4 a5 a6 = some (validW a0 a1 a2 a3 a4 a5 a6) := by
 unfold Zs.f; simp only [in_eq,Ye k hk,Option.bind_some]; unfold validW q0 q1 q2 q3
 cases inB a0 1 64 <;> cases inB a1 a0 64 <;> cases inB a2 1 8 <;> cases inB a4 1 256 <;> cases inB a3 a4 65536 <;> cases alB a5 <;> cases inB a6 1 255 <;> rfl
theorem Xj {a0 a1 a2 a3 a4 a5 a6 : Int} (h : validW a0 a1 a2 a3 a4 a5 a6 = true) : (1 ≤ a0 ∧ a0 ≤ a1 ∧ a1 ≤ 64) ∧ (1 ≤ a2 ∧ a2 ≤ 8) ∧ (1 ≤ a4 ∧ a4 ≤ 256) ∧ (a4 ≤ a3 ∧ a3 ≤ 65536) ∧ alB a5 = true ∧ (1 ≤ a6 ∧ a6 ≤ 255) := by
 unfold validW q0 q1 q2 q3 inB at h; simp only [Bool.and_eq_true,decide_eq_true_eq] at h; obtain ⟨⟨h1,h2⟩,h3,⟨h4,h5⟩,h6,h7⟩ := h; exact ⟨by omega,h3,h4,h5,h6,h7⟩
end Go.Proofs.Ytcdiecgenpigbaa.Pure

namespace Go.Proofs.Ytcdiecgenpigbaa.Pure
open Go.RowKit Go.Proofs.Ytcdiecgenpigbaa.PA Go.Proofs.YtcdiecgenpigbaaW.PrintWords Go.Proofs.YtcdiecgenpigbaaW.PrintLast Go.Proofs.YtcdiecgenpigbaaW.PrintMore
set_option linter.unusedVariables false
set_option linter.unusedSimpArgs false
def rowG (al sz : Int) : Nat → Int → List Int
 | 0,_ => []
 | m + 1,a => upN a al :: rowG al sz m (upN a al + sz)
def rowsG (al sz : Int) (B : Nat) : Nat → Int → List (List Int)
 | 0,_ => []
 | m + 1,a => rowG al sz B a :: rowsG al sz B m (endF al sz B a)
theorem XL (al sz : Int) : ∀ (m : Nat) (a : Int),(rowG al sz m a).length = m
 | 0,_ => rfl
 | m + 1,a => by simp [rowG,XL al sz m]
theorem X6 (al sz : Int) (B : Nat) : ∀ (m : Nat) (a : Int),(rowsG al sz B m a).length = m
 | 0,_ => rfl
 | m + 1,a => by simp [rowsG,X6 al sz B m]
theorem Qi (al sz : Int) : ∀ (m p : Nat) (a : Int),endF al sz (m + p) a = endF al sz p (endF al sz m a)
 | 0,p,a => by simp [endF]
 | m + 1,p,a => by rw [show m + 1 + p = (m + p) + 1 by omega,endF,Qi al sz m p,endF]
theorem QH (al sz : Int) (B : Nat) : ∀ (m p t : Nat) (a : Int),blkF al sz B (m + p) t a = blkF al sz B m t a ++ blkF al sz B p (t + m) (endF al sz m a)
 | 0,p,t,a => by simp [blkF,endF]
 | m + 1,p,t,a => by
  rw [show m + 1 + p = (m + p) + 1 by omega,blkF,QH al sz B m p,blkF,endF,show t + 1 + m = t + (m + 1) by omega]; rfl
theorem Q4 (al sz : Int) (B : Nat) : ∀ (m t : Nat) (a : Int),(blkF al sz B m t a).map (·.2) = rowG al sz m a
 | 0,_,_ => rfl
 | m + 1,t,a => by simp [blkF,rowG,Q4 al sz B m]
theorem Q5 (al sz : Int) (B : Nat) : ∀ (m t : Nat) (a : Int) (x),x ∈ blkF al sz B m t a → ((t / B : Nat) : Int) ≤ x.1.1
 | 0,_,_,x,h => by simp [blkF] at h
 | m + 1,t,a,x,h => by
  rw [blkF,List.mem_cons] at h
  rcases h with rfl | h
  · exact Int.le_refl _
  · have := Q5 al sz B m (t + 1) _ x h
    have h2 : t / B ≤ (t + 1) / B := Nat.div_le_div_right (by omega); omega
theorem QX (al sz : Int) (B : Nat) (i : Nat) (hB : 0 < B) : ∀ (m t : Nat) (a : Int) (x),t + m ≤ (i + 1) * B → x ∈ blkF al sz B m t a → x.1.1 ≤ (i : Int)
 | 0,_,_,x,_,h => by simp [blkF] at h
 | m + 1,t,a,x,hm,h => by
  rw [blkF,List.mem_cons] at h
  rcases h with rfl | h
  · have : t / B < i + 1 := Nat.div_lt_of_lt_mul (by rw [Nat.mul_comm]; omega)
    show ((t / B : Nat) : Int) ≤ _; omega
  · exact QX al sz B i hB m (t + 1) _ x (by omega) h
theorem Q1 (al sz : Int) (B i : Nat) (hB : 0 < B) (a : Int) (x) (h : x ∈ blkF al sz B B (i * B) a) : x.1.1 = (i : Int) := by
 have h1 := Q5 al sz B B (i * B) a x h; have h2 := QX al sz B i hB B (i * B) a x (by rw [Nat.add_mul]; omega) h; rw [Nat.mul_div_cancel _ hB] at h1; omega
theorem Q3 (al sz : Int) (B : Nat) (hB : 0 < B) : ∀ (m i : Nat) (a : Int),((List.range' i m).map fun (r : Nat) => ((blkF al sz B (m * B) (i * B) a).filter fun x => x.1.1 == (r : Int)).map (·.2)) = rowsG al sz B m a
 | 0,i,a => rfl
 | m + 1,i,a => by
  have e : (m + 1) * B = B + m * B := by rw [Nat.add_mul]; omega
  rw [e,QH,List.range'_succ,List.map_cons,rowsG]
  have h1 : (blkF al sz B B (i * B) a).filter (fun x => x.1.1 == (i : Int)) = blkF al sz B B (i * B) a :=
   List.filter_eq_self.2 (fun x hx => by rw [Q1 al sz B i hB a x hx]; simp)
  have e2 : i * B + B = (i + 1) * B := by rw [Nat.add_mul]; omega
  have h2 : (blkF al sz B (m * B) (i * B + B) (endF al sz B a)).filter (fun x => x.1.1 == (i : Int)) = [] := by
   refine List.filter_eq_nil_iff.2 (fun x hx => ?_); have h3 := Q5 _ _ _ _ _ _ x hx; rw [e2,Nat.mul_div_cancel _ hB] at h3; simp; omega
  rw [List.filter_append,h1,h2,List.append_nil,Q4,e2,← Q3 al sz B hB m (i + 1) (endF al sz B a)]
  congr 1
  refine List.map_congr_left fun r hr => ?_
  have hr1 : i + 1 ≤ r := (List.mem_range'_1.1 hr).1; rw [List.filter_append]
  have h4 : (blkF al sz B B (i * B) a).filter (fun x => x.1.1 == (r : Int)) = [] := by
   refine List.filter_eq_nil_iff.2 (fun x hx => ?_); rw [Q1 al sz B i hB a x hx]; simp; omega
  rw [h4,List.nil_append]
theorem XU (al sz : Int) (B c : Nat) (hB : 0 < B) (a : Int) : rowsOf c (blkF al sz B (c * B) 0 a) = rowsG al sz B c a := by
 have := Q3 al sz B hB c 0 a; rw [Nat.zero_mul] at this; unfold rowsOf; rw [List.range_eq_range']; exact this
theorem up_eq (a al : Int) (h1 : 1 ≤ al) (h2 : al ≤ 256) (ha : 0 ≤ a) (hb : a ≤ 2000000000) : ZO.f a al = some (upN a al) := by
 unfold ZO.f; rw [if_neg (by omega)]; have hu := Xl (n := a) (t := al) h1; rw [w64 (x := a + al) (by omega) (by omega),w64 (x := a + al - 1) (by omega) (by omega)]; have hd : Int.tdiv (a + al - 1) al = (a + al - 1) / al := Int.tdiv_eq_ediv_of_nonneg (by omega); have hq : 0 ≤ (a + al - 1) / al := Int.ediv_nonneg (by omega) (by omega); have hq2 : (a + al - 1) / al ≤ a + al - 1 := Int.ediv_le_self _ (by omega); rw [hd,w64 (x := (a + al - 1) / al) (by omega) (by omega)]; unfold upN at hu ⊢; rw [w64 (by omega) (by omega)]
theorem laid_row (c bl sz st al kd : Int) (h1 : 1 ≤ al) (h2 : al ≤ 256) (hs : 0 ≤ sz) (hs2 : sz ≤ 65536) (hbl : bl ≤ 8) (out : List (List Int)) (i : Int) (hout : out.length < 1000) : ∀ (d k : Nat) (j a : Int) (row : List Int),0 ≤ j → j + d = bl → d < k → 0 ≤ a → a + d * 65791 ≤ 1900000000 → row.length = j.toNat →
 Zu.l1 (k + 1) a out i row j c bl sz st al kd = Zu.l0 (k - d) (endF al sz d a) (out ++ [row ++ rowG al sz d a]) (wrap64 (i + 1)) c bl sz st al kd := by
 intro d
 induction d with
 | zero =>
  intro k j a row hj hd hk ha hb hl; rw [Zu.l1.eq_2]; rw [if_neg (by omega),if_pos (by omega)]; simp [rowG,endF]
 | succ d ih =>
  intro k j a row hj hd hk ha hb hl
  obtain ⟨k,rfl⟩ : ∃ q,k = q + 1 := ⟨k - 1,by omega⟩
  rw [Zu.l1.eq_2,if_pos (by omega),up_eq a al h1 h2 ha (by omega)]; have hu := Xl (n := a) (t := al) h1; simp only [Option.bind_some]; rw [if_pos (by omega),w64 (x := upN a al + sz) (by omega) (by omega),w64 (x := j + 1) (by omega) (by omega)]; rw [ih k (j + 1) (upN a al + sz) (row ++ [upN a al]) (by omega) (by omega) (by omega) (by omega) (by omega) (by simp; omega)]; simp [rowG,endF]
theorem laid_rows (c bl sz st al kd : Int) (h1 : 1 ≤ al) (h2 : al ≤ 256) (hs : 0 ≤ sz) (hs2 : sz ≤ 65536) (hb1 : 1 ≤ bl) (hbl : bl ≤ 8) (hc : c ≤ 64) : ∀ (d k : Nat) (i a : Int) (out : List (List Int)),0 ≤ i → i + d = c → d * 20 + 1 < k → 0 ≤ a → a + (d * 8 : Nat) * 65791 ≤ 1900000000 → out.length = i.toNat →
 Zu.l0 k a out i c bl sz st al kd = some (out ++ rowsG al sz bl.toNat d a,endF al sz (d * bl.toNat) a) := by
 intro d
 induction d with
 | zero =>
  intro k i a out hi hd hk ha hb hl
  obtain ⟨k,rfl⟩ : ∃ q,k = q + 1 := ⟨k - 1,by omega⟩
  rw [Zu.l0.eq_2,if_neg (by omega)]; simp [rowsG,endF]
 | succ d ih =>
  intro k i a out hi hd hk ha hb hl
  obtain ⟨k,rfl⟩ : ∃ q,k = q + 2 := ⟨k - 2,by omega⟩
  rw [Zu.l0.eq_2,if_pos (by omega)]; have hB := XH (al := al) (sz := sz) h1 h2 hs hs2 bl.toNat a; rw [laid_row c bl sz st al kd h1 h2 hs hs2 hbl out i (by omega) bl.toNat k 0 a [] (by omega) (by omega) (by omega) ha (by omega) rfl]; rw [w64 (x := i + 1) (by omega) (by omega)]; rw [ih (k - bl.toNat) (i + 1) (endF al sz bl.toNat a) (out ++ [[] ++ rowG al sz bl.toNat a]) (by omega) (by omega) (by omega) (by omega) (by omega) (by simp; omega)]; rw [show (d + 1) * bl.toNat = bl.toNat + d * bl.toNat by rw [Nat.add_mul]; omega,Qi]; simp [rowsG]
theorem QZ (k : Nat) (hk : 2000 ≤ k) (c bl sz st al kd a : Int) (hok : DealOk c bl sz al) (ha : 0 ≤ a) (ha2 : a ≤ 1000000000) :
 Zu.f k c bl sz st al kd a = some (rowsOf c.toNat (blkF al sz bl.toNat (c.toNat * bl.toNat) 0 a),endF al sz (c.toNat * bl.toNat) a) := by
 have := hok.c0; have := hok.c1; have := hok.b0; have := hok.b1; have := hok.s0; have := hok.s1; have := hok.a0; have := hok.a1; unfold Zu.f; rw [laid_rows c bl sz st al kd hok.a0 hok.a1 hok.s0 hok.s1 hok.b0 hok.b1 hok.c1 c.toNat k 0 a [] (by omega) (by omega) (by omega) ha (by omega) rfl,XU _ _ _ _ (by omega)]; rfl
end Go.Proofs.Ytcdiecgenpigbaa.Pure

namespace Go.Proofs.Ytcdiecgenpigbaa.Pure
open Go.RowKit Go.Proofs.Ytcdiecgenpigbaa.PA Go.Proofs.YtcdiecgenpigbaaW.PrintWords Go.Proofs.YtcdiecgenpigbaaW.PrintLast Go.Proofs.YtcdiecgenpigbaaW.PrintMore
set_option linter.unusedVariables false
set_option linter.unusedSimpArgs false
def DealV (c bl sz st al kd : Int) : Prop := (1 ≤ c ∧ c ≤ 64) ∧ (1 ≤ bl ∧ bl ≤ 8) ∧ (1 ≤ st ∧ st ≤ 256) ∧ (st ≤ sz ∧ sz ≤ 65536) ∧ Int.tmod sz st = 0 ∧ alB al = true ∧ (0 ≤ kd ∧ kd ≤ 7) ∧ endF al sz (c.toNat * bl.toNat) 0 ≤ 1000000
instance (c bl sz st al kd : Int) : Decidable (DealV c bl sz st al kd) := by unfold DealV; infer_instance
def validD (c bl sz st al kd : Int) : Bool := decide (DealV c bl sz st al kd)
theorem QR {c bl sz st al kd a : Int} (hok : DealOk c bl sz al) (ha : 0 ≤ a) (ha2 : a ≤ 1000000000) : ZK.f c bl sz st al kd a = some (endF al sz (c.toNat * bl.toNat) a) := by
 unfold ZK.f; rw [if_pos ⟨hok.c0,hok.c1,hok.b0,hok.b1,hok.s0,hok.s1,hok.a0,hok.a1,ha,ha2⟩]
theorem Q7 {c bl sz st al kd : Int} (h : DealV c bl sz st al kd) : DealOk c bl sz al := by
 have := Xt h.2.2.2.2.2.1; exact ⟨by have := h.1; omega,h.1.2,h.2.1.1,h.2.1.2,by have := h.2.2.1; have := h.2.2.2.1; omega,h.2.2.2.1.2,this.1,this.2⟩
theorem Xq (c bl sz st al kd : Int) : ZF.f c bl sz st al kd = some (validD c bl sz st al kd) := by
 unfold ZF.f validD; simp only [Xi,Qk,Option.bind_some,inB,decide_eq_true_eq]
 by_cases h1 : 1 ≤ c ∧ c ≤ 64
 · rw [if_pos h1]
   by_cases h2 : 1 ≤ bl ∧ bl ≤ 8
   · rw [if_pos h2]
     by_cases h3 : 1 ≤ st ∧ st ≤ 256
     · rw [if_pos h3]
       by_cases h4 : st ≤ sz ∧ sz ≤ 65536
       · rw [if_pos h4,if_neg (by omega)]
         by_cases h5 : Int.tmod sz st = 0
         · rw [if_pos h5]
           by_cases h6 : alB al = true
           · rw [if_pos h6]
             by_cases h7 : 0 ≤ kd ∧ kd ≤ 7
             · rw [if_pos h7]
               have ha := Xt h6; rw [QR ⟨by omega,by omega,by omega,by omega,by omega,by omega,by omega,by omega⟩ (by omega) (by omega)]
               by_cases h8 : endF al sz (c.toNat * bl.toNat) 0 ≤ 1000000
               · rw [decide_eq_true (show DealV c bl sz st al kd from ⟨h1,h2,h3,h4,h5,h6,h7,h8⟩),Option.bind_some,decide_eq_true h8]
               · rw [decide_eq_false (fun h : DealV c bl sz st al kd => h8 h.2.2.2.2.2.2.2),Option.bind_some,decide_eq_false h8]
             · rw [if_neg h7,decide_eq_false (fun h : DealV c bl sz st al kd => h7 h.2.2.2.2.2.2.1)]
           · rw [if_neg h6,decide_eq_false (fun h : DealV c bl sz st al kd => h6 h.2.2.2.2.2.1)]
         · rw [if_neg h5,decide_eq_false (fun h : DealV c bl sz st al kd => h5 h.2.2.2.2.1)]
       · rw [if_neg h4,decide_eq_false (fun h : DealV c bl sz st al kd => h4 h.2.2.2.1)]
     · rw [if_neg h3,decide_eq_false (fun h : DealV c bl sz st al kd => h3 h.2.2.1)]
   · rw [if_neg h2,decide_eq_false (fun h : DealV c bl sz st al kd => h2 h.2.1)]
 · rw [if_neg h1,decide_eq_false (fun h : DealV c bl sz st al kd => h1 h.1)]
theorem Xv (k : Nat) (hk : 2000 ≤ k) (c bl sz st al kd : Int) : Zz.f k c bl sz st al kd = some (validD c bl sz st al kd) := by
 unfold Zz.f validD; simp only [in_eq,Ye k (by omega),Option.bind_some,inB,decide_eq_true_eq]
 by_cases h1 : 1 ≤ c ∧ c ≤ 64
 · rw [if_pos h1]
   by_cases h2 : 1 ≤ bl ∧ bl ≤ 8
   · rw [if_pos h2]
     by_cases h3 : 1 ≤ st ∧ st ≤ 256
     · rw [if_pos h3]
       by_cases h4 : 1 ≤ sz ∧ sz ≤ 65536
       · rw [if_pos h4,if_neg (by omega)]
         by_cases h5 : Int.tmod sz st = 0
         · rw [if_pos h5]
           have h4' : st ≤ sz ∧ sz ≤ 65536 := by
            refine ⟨?_,h4.2⟩; rw [Int.tmod_eq_emod_of_nonneg (by omega)] at h5; exact Int.le_of_dvd (by omega) (Int.dvd_of_emod_eq_zero h5)
           by_cases h6 : alB al = true
           · rw [if_pos h6]
             by_cases h7 : 0 ≤ kd ∧ kd ≤ 7
             · rw [if_pos h7]
               have ha := Xt h6; rw [QZ k hk c bl sz st al kd 0 ⟨by omega,by omega,by omega,by omega,by omega,by omega,by omega,by omega⟩ (by omega) (by omega)]
               by_cases h8 : endF al sz (c.toNat * bl.toNat) 0 ≤ 1000000
               · rw [decide_eq_true (show DealV c bl sz st al kd from ⟨h1,h2,h3,h4',h5,h6,h7,h8⟩),Option.bind_some,decide_eq_true h8]
               · rw [decide_eq_false (fun h : DealV c bl sz st al kd => h8 h.2.2.2.2.2.2.2),Option.bind_some,decide_eq_false h8]
             · rw [if_neg h7,decide_eq_false (fun h : DealV c bl sz st al kd => h7 h.2.2.2.2.2.2.1)]
           · rw [if_neg h6,decide_eq_false (fun h : DealV c bl sz st al kd => h6 h.2.2.2.2.2.1)]
         · rw [if_neg h5,decide_eq_false (fun h : DealV c bl sz st al kd => h5 h.2.2.2.2.1)]
       · rw [if_neg h4,decide_eq_false (fun h : DealV c bl sz st al kd => h4 ⟨by have := h.2.2.2.1; omega,h.2.2.2.1.2⟩)]
     · rw [if_neg h3,decide_eq_false (fun h : DealV c bl sz st al kd => h3 h.2.2.1)]
   · rw [if_neg h2,decide_eq_false (fun h : DealV c bl sz st al kd => h2 h.2.1)]
 · rw [if_neg h1,decide_eq_false (fun h : DealV c bl sz st al kd => h1 h.1)]
theorem lay_eq (k : Nat) (hk : 2000 ≤ k) (c bl sz st al kd a : Int) : ZA.f k c bl sz st al kd a = ZR.f c bl sz st al kd a := by
 unfold ZA.f ZR.f; rw [Xv k hk,Xq]; simp only [Option.bind_some,in_eq,inB,decide_eq_true_eq]
 by_cases h : validD c bl sz st al kd = true
 · rw [if_pos h,if_pos h]
   by_cases ha : 0 ≤ a ∧ a ≤ 1000000000
   · rw [if_pos ha,if_pos ha,QZ k hk c bl sz st al kd a (Q7 (of_decide_eq_true h)) ha.1 ha.2]
     rfl
   · rw [if_neg ha,if_neg ha]
 · rw [if_neg h,if_neg h]
theorem row_loop (a : List Int) (ha : a.length ≤ 100000) : ∀ (d k i : Nat),a.length - i = d → d + 1 < k → Z1.l0 k a a (i : Int) = some true := by
 intro d
 induction d with
 | zero =>
  intro k i hd hk
  obtain ⟨k,rfl⟩ : ∃ q,k = q + 1 := ⟨k - 1,by omega⟩
  rw [Z1.l0.eq_2,if_neg (by omega)]
 | succ d ih =>
  intro k i hd hk
  obtain ⟨k,rfl⟩ : ∃ q,k = q + 1 := ⟨k - 1,by omega⟩
  rw [Z1.l0.eq_2,if_pos (by omega),if_pos (by omega),if_pos (by omega),if_pos rfl,w64 (by omega) (by omega)]; exact ih k (i + 1) (by omega) (by omega)
theorem row_refl (a : List Int) (ha : a.length ≤ 100000) (k : Nat) (hk : a.length + 1 < k) : Z1.f k a a = some true := by
 unfold Z1.f; rw [if_pos rfl]; exact row_loop a ha a.length k 0 (by omega) (by omega)
theorem mat_loop (a : List (List Int)) (ha : a.length ≤ 1000) (hr : ∀ r ∈ a,r.length ≤ 1000) : ∀ (d k i : Nat),a.length - i = d → d + 1010 < k → Zr.l0 k a a (i : Int) = some true := by
 intro d
 induction d with
 | zero =>
  intro k i hd hk
  obtain ⟨k,rfl⟩ : ∃ q,k = q + 1 := ⟨k - 1,by omega⟩
  rw [Zr.l0.eq_2,if_neg (by omega)]
 | succ d ih =>
  intro k i hd hk
  obtain ⟨k,rfl⟩ : ∃ q,k = q + 1 := ⟨k - 1,by omega⟩
  have hrd : (rd_L4 a (i : Int)).length ≤ 1000 := by
   unfold rd_L4; rw [Int.toNat_natCast,List.getD_eq_getElem?_getD,List.getElem?_eq_getElem (by omega)]; exact hr _ (List.getElem_mem _)
  rw [Zr.l0.eq_2,if_pos (by omega),if_pos (by omega),if_pos (by omega),row_refl _ (by omega) k (by omega),Option.bind_some,if_pos rfl,w64 (by omega) (by omega)]; exact ih k (i + 1) (by omega) (by omega)
theorem mat_refl (a : List (List Int)) (ha : a.length ≤ 1000) (hr : ∀ r ∈ a,r.length ≤ 1000) (k : Nat) (hk : 2100 ≤ k) : Zr.f k a a = some true := by
 unfold Zr.f; rw [if_pos rfl]; exact mat_loop a ha hr a.length k 0 (by omega) (by omega)
theorem Qo (al sz : Int) (B : Nat) : ∀ (m : Nat) (a : Int) (r),r ∈ rowsG al sz B m a → r.length = B
 | 0,_,r,h => by simp [rowsG] at h
 | m + 1,a,r,h => by
  rw [rowsG,List.mem_cons] at h
  rcases h with rfl | h
  · exact XL _ _ _ _
  · exact Qo al sz B m _ r h
theorem lay_small {c bl sz st al kd a : Int} {r : List (List Int) × Int × Int} (h : ZR.f c bl sz st al kd a = some r) : r.1.length ≤ 1000 ∧ ∀ x ∈ r.1,x.length ≤ 1000 := by
 unfold ZR.f at h; rw [Xq,Option.bind_some] at h; have h2 := Option.some.inj h; subst h2; split
 · rename_i hv
   have hok := Q7 (of_decide_eq_true hv); have := hok.c0; have := hok.c1; have := hok.b0; have := hok.b1; split
   · simp only [XU _ _ _ _ (show 0 < bl.toNat by omega)]
     refine ⟨by rw [X6]; omega,fun x hx => ?_⟩; rw [Qo _ _ _ _ _ x hx]; omega
   · simp
 · simp
end Go.Proofs.Ytcdiecgenpigbaa.Pure

namespace Go.Proofs.Ytcdiecgenpigbaa.Pure
open Go.RowKit Go.Proofs.Ytcdiecgenpigbaa.PA Go.Proofs.YtcdiecgenpigbaaW.PrintWords Go.Proofs.YtcdiecgenpigbaaW.PrintLast Go.Proofs.YtcdiecgenpigbaaW.PrintMore
set_option linter.unusedVariables false
set_option linter.unusedSimpArgs false
def kindF (p : Nat → Bool) : Nat → Nat → Int
 | 0,_ => -1
 | d + 1,j => if p j = true then (j : Int) else kindF p d (j + 1)
theorem Qq (p : Nat → Bool) : ∀ (d j : Nat),kindF p d j < 0 → ∀ i,j ≤ i → i < j + d → p i = false
 | 0,j,h,i,h1,h2 => by omega
 | d + 1,j,h,i,h1,h2 => by
  unfold kindF at h; split at h
  · omega
  · rename_i hp
    by_cases e : i = j
    · rw [e]; simpa using hp
    · exact Qq p d (j + 1) h i (by omega) (by omega)
theorem Qp (p : Nat → Bool) : ∀ (d j i : Nat),j ≤ i → i < j + d → p i = true → 0 ≤ kindF p d j ∧ kindF p d j < j + d ∧ p (kindF p d j).toNat = true
 | 0,j,i,h1,h2,h => by omega
 | d + 1,j,i,h1,h2,h => by
  unfold kindF; split
  · rename_i hp; refine ⟨by omega,by omega,by simpa using hp⟩
  · rename_i hp
    have e : i ≠ j := fun e => hp (e ▸ h)
    obtain ⟨q1,q2,q3⟩ := Qp p d (j + 1) i (by omega) (by omega) h; exact ⟨q1,by omega,q3⟩
theorem XY {p q : Nat → Bool} (h : ∀ i,p i = q i) : ∀ (d j : Nat),kindF p d j = kindF q d j
 | 0,_ => rfl
 | d + 1,j => by unfold kindF; rw [h j,XY h d (j + 1)]
theorem zero_fin : ∀ m : Fin 256,(m.val = 0 ↔ ∀ j : Fin 8,m.val.testBit j.val = false) := by decide +kernel
theorem Qz (m : Nat) (hm : m < 256) : m = 0 ↔ ∀ j,j < 8 → m.testBit j = false :=
 ⟨fun h j hj => by rw [h]; simp,fun h => (zero_fin ⟨m,hm⟩).2 fun j => h j.val j.isLt⟩
def errA (e : Int) : Int × Int × Int × Int × Int × Int × Int := (0,0,0,0,0,0,e)
def agreeR (a0 a1 a2 a3 a4 a5 a6 b0 b1 b2 b3 b4 b5 b6 pf : Int) : Int × Int × Int × Int × Int × Int × Int :=
 if validW a0 a1 a2 a3 a4 a5 a6 = true ∧ validW b0 b1 b2 b3 b4 b5 b6 = true then
  if 0 ≤ pf ∧ pf ≤ 64 then
   if a2 = b2 ∧ a4 = b4 ∧ 0 ≤ kindF (fun j => a6.toNat.testBit j && b6.toNat.testBit j) 8 0 then
    if mx a0 b0 ≤ mn a1 b1 then
     if validD (mn (mx (mx a0 b0) pf) (mn a1 b1)) a2 (upN (mx a3 b3) a4) a4 (mx a5 b5) (kindF (fun j => a6.toNat.testBit j && b6.toNat.testBit j) 8 0) = true then
      (mn (mx (mx a0 b0) pf) (mn a1 b1),a2,upN (mx a3 b3) a4,a4,mx a5 b5,kindF (fun j => a6.toNat.testBit j && b6.toNat.testBit j) 8 0,0)
     else errA 4
    else errA 11
   else errA 10
  else errA 7
 else errA 1
theorem mx_al {x y : Int} (h1 : alB x = true) (h2 : alB y = true) : alB (mx x y) = true := by
 unfold mx; split
 · exact h2
 · exact h1
theorem QE (n t : Int) (h : 0 ≤ n) (ht : 1 ≤ t) : Int.tmod (upN n t) t = 0 := by
 unfold upN; exact Int.mul_tmod_left _ _
theorem size_up {n st : Int} (h1 : 1 ≤ st) (h2 : st ≤ 256) (h3 : st ≤ n) (h4 : n ≤ 65536) : st ≤ upN n st ∧ upN n st ≤ 65791 := by
 have := Xl (n := n) (t := st) h1; omega
theorem pool_up_eq (a al : Int) (h1 : 1 ≤ al) (h2 : al ≤ 256) (ha : 0 ≤ a) (hb : a ≤ 2000000000) : Xs.f a al = some (upN a al) := up_eq a al h1 h2 ha hb
theorem pool_kinds (A B : Nat) (hA : A < 256) (hB : B < 256) (x0 x1 x2 x3 x4 x5 y0 y1 y2 y3 y4 y5 c bl sz st al : Int) (hne : ∃ i,i < 8 ∧ (A &&& B).testBit i = true) :
 ∀ (d j k : Nat),j + d = 8 → (∀ i,i < j → (A &&& B).testBit i = false) → d < k →
  Zy.l0 k x0 x1 x2 x3 x4 x5 (A : Int) y0 y1 y2 y3 y4 y5 (B : Int) c bl sz st al (j : Int) =
   if sz > 65536 then some (errA 4) else (ZK.f c bl sz st al (kindF (fun i => A.testBit i && B.testBit i) d j) 0).bind fun t => if t > 1000000 then some (errA 4) else some (c,bl,sz,st,al,kindF (fun i => A.testBit i && B.testBit i) d j,0) := by
 intro d
 induction d with
 | zero =>
  intro j k hj hno hk; obtain ⟨i,hi,hb⟩ := hne; have := hno i (by omega); rw [this] at hb; cases hb
 | succ d ih =>
  intro j k hj hno hk
  obtain ⟨k,rfl⟩ : ∃ q,k = q + 1 := ⟨k - 1,by omega⟩
  have hlt : A &&& B < 256 := Nat.and_lt_two_pow (n := 8) _ (by omega); rw [Zy.l0.eq_2,if_pos (by omega),QV A B hA hB,sh_eq _ j hlt (by omega)]
  by_cases hb : (A &&& B).testBit j = true
  · rw [hb,if_pos rfl,if_neg (by decide)]
    have e : kindF (fun i => A.testBit i && B.testBit i) (d + 1) j = (j : Int) := by
     unfold kindF; rw [if_pos (by rw [← Nat.testBit_and]; exact hb)]
    rw [e]; rfl
  · rw [if_neg hb,if_pos rfl,w64 (by omega) (by omega)]
    have e : kindF (fun i => A.testBit i && B.testBit i) (d + 1) j = kindF (fun i => A.testBit i && B.testBit i) d (j + 1) := by
     conv => lhs; unfold kindF
     rw [if_neg (by rw [← Nat.testBit_and]; exact hb)]
    rw [e]; refine ih (j + 1) k (by omega) (fun i hi => ?_) (by omega)
    by_cases h : i = j
    · rw [h]; simpa using hb
    · exact hno i (by omega)
theorem XF (k : Nat) (hk : 100 ≤ k) (a0 a1 a2 a3 a4 a5 a6 b0 b1 b2 b3 b4 b5 b6 pf : Int) :
 Zy.f k a0 a1 a2 a3 a4 a5 a6 b0 b1 b2 b3 b4 b5 b6 pf = some (agreeR a0 a1 a2 a3 a4 a5 a6 b0 b1 b2 b3 b4 b5 b6 pf) := by
 unfold Zy.f agreeR ZC.f; simp only [Option.bind_some]
 obtain ⟨k,rfl⟩ : ∃ q,k = q + 20 := ⟨k - 20,by omega⟩
 by_cases hv : validW a0 a1 a2 a3 a4 a5 a6 = true ∧ validW b0 b1 b2 b3 b4 b5 b6 = true
 · rw [if_pos hv,if_pos hv.1,hv.2,Zy.j0.eq_2]
   rw [if_neg (by decide),Xi,Option.bind_some]; unfold inB; simp only [decide_eq_true_eq]
   by_cases hp : 0 ≤ pf ∧ pf ≤ 64
   · rw [if_pos hp,if_pos hp]
     obtain ⟨⟨u1,u2,u3⟩,u4,u5,u6,u7,u8⟩ := Xj hv.1; obtain ⟨⟨v1,v2,v3⟩,v4,v5,v6,v7,v8⟩ := Xj hv.2; obtain ⟨A,rfl⟩ := Int.eq_ofNat_of_zero_le (show 0 ≤ a6 by omega); obtain ⟨B,rfl⟩ := Int.eq_ofNat_of_zero_le (show 0 ≤ b6 by omega)
     have hA : A < 256 := by omega
     have hB : B < 256 := by omega
     have hlt : A &&& B < 256 := Nat.and_lt_two_pow (n := 8) _ (by omega); simp only [Int.toNat_natCast]
     have hz : ((A &&& B : Nat) : Int) = 0 ↔ kindF (fun j => A.testBit j && B.testBit j) 8 0 < 0 := by
      rw [show (((A &&& B : Nat) : Int) = 0 ↔ A &&& B = 0) by omega,Qz _ hlt]; constructor
      · intro h
        refine Int.not_le.1 fun h0 => ?_
        by_cases hex : ∃ i,i < 8 ∧ (A.testBit i && B.testBit i) = true
        · obtain ⟨i,hi,hb⟩ := hex
          rw [← Nat.testBit_and,h i hi] at hb; cases hb
        · have : ∀ (d j : Nat),j + d ≤ 8 → kindF (fun j => A.testBit j && B.testBit j) d j = -1 := by
           intro d
           induction d with
           | zero => intro j hj; rfl
           | succ d ih =>
            intro j hj; unfold kindF; rw [if_neg (fun hb => hex ⟨j,by omega,hb⟩)]; exact ih (j + 1) (by omega)
          rw [this 8 0 (by omega)] at h0; omega
      · intro h j hj
        rw [Nat.testBit_and]; exact Qq _ 8 0 h j (by omega) (by omega)
     by_cases h2 : a2 = b2
     · rw [if_pos h2]
       by_cases h4 : a4 = b4
       · rw [if_pos h4,QV A B hA hB,Zy.j1.eq_2]
         by_cases hk0 : ((A &&& B : Nat) : Int) = 0
         · rw [if_pos (by simpa using hk0),if_neg (fun h => by have := hz.1 hk0; omega)]
           rfl
         · have hk1 : 0 ≤ kindF (fun j => A.testBit j && B.testBit j) 8 0 := Int.not_lt.1 fun h => hk0 (hz.2 h)
           have e1 : a2 = b2 ∧ a4 = b4 ∧ 0 ≤ kindF (fun j => A.testBit j && B.testBit j) 8 0 := ⟨h2,h4,hk1⟩
           have e0 : ¬ ((((A &&& B : Nat) : Int) == 0) = true) := by simpa using hk0
           rw [if_neg e0,if_pos e1]
           by_cases hc : mx a0 b0 ≤ mn a1 b1
           · have e2 : ¬ (mx a0 b0 > mn a1 b1) := by omega
             rw [if_neg e2,if_pos hc]
             have hm3 : a4 ≤ mx a3 b3 ∧ mx a3 b3 ≤ 65536 := by unfold mx; split <;> omega
             rw [pool_up_eq _ _ u5.1 u5.2 (by omega) (by omega),Option.bind_some]
             have hex : ∃ i,i < 8 ∧ (A &&& B).testBit i = true := by
              refine Classical.byContradiction fun h => ?_
              apply hk0
              have := (Qz (A &&& B) hlt).2 (fun j hj => by
               cases hb : (A &&& B).testBit j with
               | false => rfl
               | true => exact absurd ⟨j,hj,hb⟩ h)
              omega
             have hkk := pool_kinds A B hA hB a0 a1 a2 a3 a4 a5 b0 b1 b2 b3 b4 b5 (mn (mx (mx a0 b0) pf) (mn a1 b1)) a2 (upN (mx a3 b3) a4) a4 (mx a5 b5) hex 8 0 (k + 18) (by omega) (fun i hi => by omega) (by omega); rw [show ((0 : Nat) : Int) = 0 from rfl] at hkk; rw [hkk]; obtain ⟨i,hi,hb⟩ := hex; rw [Nat.testBit_and] at hb; obtain ⟨w1,w2,w3⟩ := Qp (fun j => A.testBit j && B.testBit j) 8 0 i (by omega) (by omega) hb
             generalize hkd : kindF (fun j => A.testBit j && B.testBit j) 8 0 = kd at *
             have hal := mx_al u7 v7; have har := Xt hal; obtain ⟨s1,s2⟩ := size_up u5.1 u5.2 hm3.1 hm3.2
             have hcnt : 1 ≤ mn (mx (mx a0 b0) pf) (mn a1 b1) ∧ mn (mx (mx a0 b0) pf) (mn a1 b1) ≤ 64 := by
              unfold mn mx at *
              repeat' split
              all_goals (repeat' split at hc)
              all_goals omega
             generalize hct : mn (mx (mx a0 b0) pf) (mn a1 b1) = ct at *
             by_cases hs : upN (mx a3 b3) a4 > 65536
             · rw [if_pos hs]
               have : validD ct a2 (upN (mx a3 b3) a4) a4 (mx a5 b5) kd = false := decide_eq_false (fun h => by have := h.2.2.2.1; omega); rw [this,if_neg (by decide)]
             · rw [if_neg hs,QR ⟨by omega,by omega,by omega,by omega,by omega,by omega,by omega,by omega⟩ (by omega) (by omega),Option.bind_some]
               by_cases he : endF (mx a5 b5) (upN (mx a3 b3) a4) (ct.toNat * a2.toNat) 0 ≤ 1000000
               · have : validD ct a2 (upN (mx a3 b3) a4) a4 (mx a5 b5) kd = true := decide_eq_true ⟨hcnt,u4,u5,⟨s1,by omega⟩,QE _ _ (by omega) u5.1,hal,⟨w1,by omega⟩,he⟩
                 rw [if_neg (by omega),if_pos this]
               · have : validD ct a2 (upN (mx a3 b3) a4) a4 (mx a5 b5) kd = false := decide_eq_false (fun h => he h.2.2.2.2.2.2.2)
                 rw [if_pos (by omega),this,if_neg (by decide)]
           · have e2 : mx a0 b0 > mn a1 b1 := by omega
             rw [if_pos e2,if_neg hc]; rfl
       · rw [if_neg h4,if_neg (fun h => h4 h.2.1),Zy.j1.eq_2,if_pos rfl]
         rfl
     · rw [if_neg h2,if_neg (fun h => h2 h.1),Zy.j1.eq_2,if_pos rfl]
       rfl
   · rw [if_neg hp,if_neg hp]
     rfl
 · rw [if_neg hv]
   by_cases h1 : validW a0 a1 a2 a3 a4 a5 a6 = true
   · rw [if_pos h1]
     have h2 : validW b0 b1 b2 b3 b4 b5 b6 = false := by
      cases h : validW b0 b1 b2 b3 b4 b5 b6 with
      | false => rfl
      | true => exact absurd ⟨h1,h⟩ hv
     rw [h2,Zy.j0.eq_2,if_pos (by decide)]; rfl
   · rw [if_neg h1,Zy.j0.eq_2,if_pos rfl]
     rfl
end Go.Proofs.Ytcdiecgenpigbaa.Pure

namespace Go.Proofs.Ytcdiecgenpigbaa.Pure
open Go.RowKit Go.Proofs.Ytcdiecgenpigbaa.PA Go.Proofs.YtcdiecgenpigbaaW.PrintWords Go.Proofs.YtcdiecgenpigbaaW.PrintLast Go.Proofs.YtcdiecgenpigbaaW.PrintMore
set_option linter.unusedVariables false
set_option linter.unusedSimpArgs false
theorem ref_kinds (A B : Nat) (hA : A < 256) (hB : B < 256) (pf x0 x1 x2 x3 x4 x5 y0 y1 y2 y3 y4 y5 : Int) :
 ∀ (d k : Nat),d ≤ 8 → 20 ≤ k → Zl.l0 (k + d) pf (kindF (fun i => A.testBit i && B.testBit i) (8 - d) d) ((d : Int) - 1) x0 x1 x2 x3 x4 x5 (A : Int) y0 y1 y2 y3 y4 y5 (B : Int) =
  Zl.l0 k pf (kindF (fun i => A.testBit i && B.testBit i) 8 0) (-1) x0 x1 x2 x3 x4 x5 (A : Int) y0 y1 y2 y3 y4 y5 (B : Int) := by
 intro d
 induction d with
 | zero => intro k hd hk; rfl
 | succ d ih =>
  intro k hd hk; rw [show k + (d + 1) = (k + d) + 1 by omega,Zl.l0.eq_2,if_pos (by omega),show (((d + 1 : Nat) : Int) - 1) = (d : Int) by omega]; rw [QQ (k + d) (by omega) A d hA (by omega),QQ (k + d) (by omega) B d hB (by omega),w64 (by omega) (by omega)]
  have e : kindF (fun i => A.testBit i && B.testBit i) (8 - d) d = if (A.testBit d && B.testBit d) = true then (d : Int) else kindF (fun i => A.testBit i && B.testBit i) (8 - (d + 1)) (d + 1) := by
   rw [show 8 - d = (8 - (d + 1)) + 1 by omega]; rfl
  have h := ih k (by omega) hk; rw [e] at h; simp only [Option.bind_some]
  cases hb : A.testBit d with
  | true =>
   cases hb2 : B.testBit d with
   | true =>
    rw [hb,hb2,if_pos (by decide)] at h; rw [if_pos rfl,if_pos rfl]; exact h
   | false =>
    rw [hb,hb2,if_neg (by decide)] at h; rw [if_pos rfl,if_neg (by decide)]; exact h
  | false =>
   rw [hb,if_neg (by simp)] at h; rw [if_neg (by decide)]; exact h
theorem ref_count (pf kd most x0 x1 x2 x3 x4 x5 x6 y0 y1 y2 y3 y4 y5 y6 N : Int) (v : Int × Int × Int × Int × Int × Int × Int) (hm : most ≤ 64)
 (hj : ∀ k,2001 ≤ k → Zl.j4 k kd N x0 x1 x2 x3 x4 x5 x6 y0 y1 y2 y3 y4 y5 y6 = some v) :
 ∀ (d k : Nat) (n : Int),1 ≤ n → n + d = most → mn (mx n pf) most = N → 2001 + d + 1 ≤ k → Zl.l1 k pf kd most n x0 x1 x2 x3 x4 x5 x6 y0 y1 y2 y3 y4 y5 y6 = some v := by
 intro d
 induction d with
 | zero =>
  intro k n h1 hd hN hk
  obtain ⟨k,rfl⟩ : ∃ q,k = q + 1 := ⟨k - 1,by omega⟩
  rw [Zl.l1.eq_2,if_neg (by omega)]
  have : n = N := by
   rw [← hN]; unfold mn mx; repeat' split
   all_goals omega
  rw [this]; exact hj k (by omega)
 | succ d ih =>
  intro k n h1 hd hN hk
  obtain ⟨k,rfl⟩ : ∃ q,k = q + 1 := ⟨k - 1,by omega⟩
  rw [Zl.l1.eq_2,if_pos (by omega)]
  by_cases hp : n < pf
  · rw [if_pos hp,w64 (by omega) (by omega)]
    refine ih k (n + 1) (by omega) (by omega) ?_ (by omega); rw [← hN]; unfold mn mx; repeat' split
    all_goals omega
  · rw [if_neg hp]
    have : n = N := by
     rw [← hN]; unfold mn mx; repeat' split
     all_goals omega
    rw [this]; exact hj k (by omega)
theorem ref_agree_eq (k : Nat) (hk : 3000 ≤ k) (a0 a1 a2 a3 a4 a5 a6 b0 b1 b2 b3 b4 b5 b6 pf : Int) :
 Zl.f k a0 a1 a2 a3 a4 a5 a6 b0 b1 b2 b3 b4 b5 b6 pf = some (agreeR a0 a1 a2 a3 a4 a5 a6 b0 b1 b2 b3 b4 b5 b6 pf) := by
 unfold Zl.f agreeR; rw [XR k (by omega),XR k (by omega)]; simp only [Option.bind_some]
 obtain ⟨k,rfl⟩ : ∃ q,k = q + 20 := ⟨k - 20,by omega⟩
 by_cases hv : validW a0 a1 a2 a3 a4 a5 a6 = true ∧ validW b0 b1 b2 b3 b4 b5 b6 = true
 · rw [if_pos hv,if_pos hv.1,hv.2,Zl.j0.eq_2]
   rw [if_neg (by decide),in_eq,Option.bind_some]; unfold inB; simp only [decide_eq_true_eq]
   by_cases hp : 0 ≤ pf ∧ pf ≤ 64
   · rw [if_pos hp,if_pos hp]
     obtain ⟨⟨u1,u2,u3⟩,u4,u5,u6,u7,u8⟩ := Xj hv.1; obtain ⟨⟨v1,v2,v3⟩,v4,v5,v6,v7,v8⟩ := Xj hv.2; obtain ⟨A,rfl⟩ := Int.eq_ofNat_of_zero_le (show 0 ≤ a6 by omega); obtain ⟨B,rfl⟩ := Int.eq_ofNat_of_zero_le (show 0 ≤ b6 by omega)
     have hA : A < 256 := by omega
     have hB : B < 256 := by omega
     simp only [Int.toNat_natCast]; have hl := ref_kinds A B hA hB pf a0 a1 a2 a3 a4 a5 b0 b1 b2 b3 b4 b5 8 (k + 11) (by omega) (by omega); rw [show k + 11 + 8 = k + 19 by omega,show 8 - 8 = 0 by omega,show (((8 : Nat) : Int) - 1) = 7 by omega,show kindF (fun i => A.testBit i && B.testBit i) 0 8 = -1 from rfl] at hl; rw [hl,Zl.l0.eq_2,if_neg (by omega)]
     by_cases h2 : a2 = b2
     · rw [if_pos h2]
       by_cases h4 : a4 = b4
       · rw [if_pos h4,Zl.j2.eq_2]
         by_cases hk0 : kindF (fun j => A.testBit j && B.testBit j) 8 0 < 0
         · rw [if_pos (decide_eq_true hk0),if_neg (fun h => by have := h.2.2; omega)]
           rfl
         · have e1 : a2 = b2 ∧ a4 = b4 ∧ 0 ≤ kindF (fun j => A.testBit j && B.testBit j) 8 0 := ⟨h2,h4,by omega⟩
           have e0 : ¬ (decide (kindF (fun j => A.testBit j && B.testBit j) 8 0 < 0) = true) := by simpa using hk0
           rw [if_neg e0,if_pos e1]
           by_cases hc : mx a0 b0 ≤ mn a1 b1
           · have e2 : ¬ (mx a0 b0 > mn a1 b1) := by omega
             rw [if_neg e2,if_pos hc]
             have hm3 : a4 ≤ mx a3 b3 ∧ mx a3 b3 ≤ 65536 := by unfold mx; split <;> omega
             have hm0 : 1 ≤ mx a0 b0 := by unfold mx; split <;> omega
             have hm1 : mn a1 b1 ≤ 64 := by unfold mn; split <;> omega
             refine ref_count pf _ (mn a1 b1) _ _ _ _ _ _ _ _ _ _ _ _ _ _ (mn (mx (mx a0 b0) pf) (mn a1 b1)) _ hm1 ?_ (mn a1 b1 - mx a0 b0).toNat _ (mx a0 b0) hm0 (by omega) rfl (by omega); intro q hq
             obtain ⟨q,rfl⟩ : ∃ p,q = p + 1 := ⟨q - 1,by omega⟩
             rw [Zl.j4.eq_2,up_eq _ _ u5.1 u5.2 (by omega) (by omega),Option.bind_some,Xv q (by omega),Option.bind_some]
             split <;> rfl
           · have e2 : mx a0 b0 > mn a1 b1 := by omega
             rw [if_pos e2,if_neg hc]; rfl
       · rw [if_neg h4,if_neg (fun h => h4 h.2.1),Zl.j2.eq_2,if_pos rfl]
         rfl
     · rw [if_neg h2,if_neg (fun h => h2 h.1),Zl.j2.eq_2,if_pos rfl]
       rfl
   · rw [if_neg hp,if_neg hp]
     rfl
 · rw [if_neg hv]
   by_cases h1 : validW a0 a1 a2 a3 a4 a5 a6 = true
   · rw [if_pos h1]
     have h2 : validW b0 b1 b2 b3 b4 b5 b6 = false := by
      cases h : validW b0 b1 b2 b3 b4 b5 b6 with
      | false => rfl
      | true => exact absurd ⟨h1,h⟩ hv
     rw [h2,Zl.j0.eq_2,if_pos (by decide)]; rfl
   · rw [if_neg h1,Zl.j0.eq_2,if_pos rfl]
     rfl
end Go.Proofs.Ytcdiecgenpigbaa.Pure

namespace Go.Proofs.Ytcdiecgenpigbaa.Pure
open Go.RowKit Go.Proofs.Ytcdiecgenpigbaa.PA Go.Proofs.YtcdiecgenpigbaaW.PrintWords Go.Proofs.YtcdiecgenpigbaaW.PrintLast Go.Proofs.YtcdiecgenpigbaaW.PrintMore
set_option linter.unusedVariables false
set_option linter.unusedSimpArgs false
def FitV (c bl sz st al kd w0 w1 w2 w3 w4 w5 w6 : Int) : Prop := (w0 ≤ c ∧ c ≤ w1) ∧ bl = w2 ∧ st = w4 ∧ sz ≥ w3 ∧ al ≥ w5 ∧ w6.toNat.testBit kd.toNat = true
instance (c bl sz st al kd w0 w1 w2 w3 w4 w5 w6 : Int) : Decidable (FitV c bl sz st al kd w0 w1 w2 w3 w4 w5 w6) := by unfold FitV; infer_instance
def fitsR (c bl sz st al kd w0 w1 w2 w3 w4 w5 w6 : Int) : Bool × Int :=
 if validD c bl sz st al kd = true then if validW w0 w1 w2 w3 w4 w5 w6 = true then (decide (FitV c bl sz st al kd w0 w1 w2 w3 w4 w5 w6),0) else (false,1) else (false,1)
theorem X7 (c bl sz st al kd w0 w1 w2 w3 w4 w5 w6 : Int) : Xa.f c bl sz st al kd w0 w1 w2 w3 w4 w5 w6 = some (fitsR c bl sz st al kd w0 w1 w2 w3 w4 w5 w6) := by
 unfold Xa.f fitsR ZC.f; rw [Xq]; simp only [Option.bind_some,Xi,inB,decide_eq_true_eq]
 by_cases h1 : validD c bl sz st al kd = true
 · rw [if_pos h1,if_pos h1]
   by_cases h2 : validW w0 w1 w2 w3 w4 w5 w6 = true
   · rw [if_pos h2,if_pos h2]
     have hd : DealV c bl sz st al kd := of_decide_eq_true h1; have hk := hd.2.2.2.2.2.2.1; obtain ⟨_,_,_,_,_,u8⟩ := Xj h2; obtain ⟨W,rfl⟩ := Int.eq_ofNat_of_zero_le (show 0 ≤ w6 by omega); obtain ⟨q,rfl⟩ := Int.eq_ofNat_of_zero_le hk.1
     by_cases g1 : w0 ≤ c ∧ c ≤ w1
     · rw [if_pos g1]
       by_cases g2 : bl = w2
       · rw [if_pos g2]
         by_cases g3 : st = w4
         · rw [if_pos g3]
           by_cases g4 : sz ≥ w3
           · rw [if_pos g4]
             by_cases g5 : al ≥ w5
             · rw [if_pos g5,if_pos hk.1,sh_eq W q (by omega) (by omega)]
               congr 2
               by_cases g6 : W.testBit q = true
               · rw [if_pos g6,decide_eq_true (show FitV _ _ _ _ _ _ _ _ _ _ _ _ _ from ⟨g1,g2,g3,g4,g5,by simpa using g6⟩)]
                 rfl
               · rw [if_neg g6,decide_eq_false (fun h : FitV _ _ _ _ _ _ _ _ _ _ _ _ _ => g6 (by simpa using h.2.2.2.2.2))]
                 rfl
             · rw [if_neg g5,decide_eq_false (fun h : FitV _ _ _ _ _ _ _ _ _ _ _ _ _ => g5 h.2.2.2.2.1)]
           · rw [if_neg g4,decide_eq_false (fun h : FitV _ _ _ _ _ _ _ _ _ _ _ _ _ => g4 h.2.2.2.1)]
         · rw [if_neg g3,decide_eq_false (fun h : FitV _ _ _ _ _ _ _ _ _ _ _ _ _ => g3 h.2.2.1)]
       · rw [if_neg g2,decide_eq_false (fun h : FitV _ _ _ _ _ _ _ _ _ _ _ _ _ => g2 h.2.1)]
     · rw [if_neg g1,decide_eq_false (fun h : FitV _ _ _ _ _ _ _ _ _ _ _ _ _ => g1 h.1)]
   · rw [if_neg h2,if_neg h2]
 · rw [if_neg h1,if_neg h1]
theorem ref_fits_eq (k : Nat) (hk' : 3000 ≤ k) (c bl sz st al kd w0 w1 w2 w3 w4 w5 w6 : Int) : Z4.f k c bl sz st al kd w0 w1 w2 w3 w4 w5 w6 = some (fitsR c bl sz st al kd w0 w1 w2 w3 w4 w5 w6) := by
 unfold Z4.f fitsR
 obtain ⟨k,rfl⟩ : ∃ q,k = q + 1 := ⟨k - 1,by omega⟩
 rw [Xv (k + 1) (by omega),XR (k + 1) (by omega)]; simp only [Option.bind_some]
 by_cases h1 : validD c bl sz st al kd = true
 · rw [if_pos h1,if_pos h1,Z4.j0.eq_2]
   simp only [in_eq,Option.bind_some,inB,decide_eq_true_eq]
   by_cases h2 : validW w0 w1 w2 w3 w4 w5 w6 = true
   · rw [if_neg (by rw [h2]; decide),if_pos h2]
     have hd : DealV c bl sz st al kd := of_decide_eq_true h1; have hk := hd.2.2.2.2.2.2.1; obtain ⟨_,_,_,_,_,u8⟩ := Xj h2; obtain ⟨W,rfl⟩ := Int.eq_ofNat_of_zero_le (show 0 ≤ w6 by omega); obtain ⟨q,rfl⟩ := Int.eq_ofNat_of_zero_le hk.1
     by_cases g1 : w0 ≤ c ∧ c ≤ w1
     · rw [if_pos g1]
       by_cases g2 : bl = w2
       · rw [if_pos g2]
         by_cases g3 : st = w4
         · rw [if_pos g3]
           by_cases g4 : sz ≥ w3
           · rw [if_pos g4]
             by_cases g5 : al ≥ w5
             · rw [if_pos g5,QQ k (by omega) W q (by omega) (by omega),Option.bind_some]
               congr 2
               by_cases g6 : W.testBit q = true
               · rw [g6,decide_eq_true (show FitV _ _ _ _ _ _ _ _ _ _ _ _ _ from ⟨g1,g2,g3,g4,g5,by simpa using g6⟩)]
               · rw [decide_eq_false (fun h : FitV _ _ _ _ _ _ _ _ _ _ _ _ _ => g6 (by simpa using h.2.2.2.2.2))]
                 simpa using g6
             · rw [if_neg g5,decide_eq_false (fun h : FitV _ _ _ _ _ _ _ _ _ _ _ _ _ => g5 h.2.2.2.2.1)]
           · rw [if_neg g4,decide_eq_false (fun h : FitV _ _ _ _ _ _ _ _ _ _ _ _ _ => g4 h.2.2.2.1)]
         · rw [if_neg g3,decide_eq_false (fun h : FitV _ _ _ _ _ _ _ _ _ _ _ _ _ => g3 h.2.2.1)]
       · rw [if_neg g2,decide_eq_false (fun h : FitV _ _ _ _ _ _ _ _ _ _ _ _ _ => g2 h.2.1)]
     · rw [if_neg g1,decide_eq_false (fun h : FitV _ _ _ _ _ _ _ _ _ _ _ _ _ => g1 h.1)]
   · have e : validW w0 w1 w2 w3 w4 w5 w6 = false := by simpa using h2
     rw [if_pos (by rw [e]; decide),if_neg h2]
 · rw [if_neg h1,if_neg h1,Z4.j0.eq_2,if_pos rfl]
theorem Q9 (a b : Int) : mx a b = mx b a := by
 unfold mx
 repeat' split
 all_goals omega
theorem mn_comm (a b : Int) : mn a b = mn b a := by
 unfold mn
 repeat' split
 all_goals omega
theorem agree_comm (a0 a1 a2 a3 a4 a5 a6 b0 b1 b2 b3 b4 b5 b6 pf : Int) : agreeR b0 b1 b2 b3 b4 b5 b6 a0 a1 a2 a3 a4 a5 a6 pf = agreeR a0 a1 a2 a3 a4 a5 a6 b0 b1 b2 b3 b4 b5 b6 pf := by
 unfold agreeR; have ek : kindF (fun j => b6.toNat.testBit j && a6.toNat.testBit j) 8 0 = kindF (fun j => a6.toNat.testBit j && b6.toNat.testBit j) 8 0 := XY (fun i => Bool.and_comm _ _) 8 0; rw [ek,Q9 b0 a0,mn_comm b1 a1,Q9 b3 a3,Q9 b5 a5]
 by_cases h : validW a0 a1 a2 a3 a4 a5 a6 = true ∧ validW b0 b1 b2 b3 b4 b5 b6 = true
 · rw [if_pos h,if_pos h.symm]
   by_cases hp : 0 ≤ pf ∧ pf ≤ 64
   · rw [if_pos hp,if_pos hp]
     by_cases h2 : a2 = b2 ∧ a4 = b4 ∧ 0 ≤ kindF (fun j => a6.toNat.testBit j && b6.toNat.testBit j) 8 0
     · rw [if_pos h2,if_pos ⟨h2.1.symm,h2.2.1.symm,h2.2.2⟩,h2.1,h2.2.1]
     · rw [if_neg h2,if_neg (fun g => h2 ⟨g.1.symm,g.2.1.symm,g.2.2⟩)]
   · rw [if_neg hp,if_neg hp]
 · rw [if_neg h,if_neg (fun g => h g.symm)]
theorem agree_ok {a0 a1 a2 a3 a4 a5 a6 b0 b1 b2 b3 b4 b5 b6 pf : Int} (h : (agreeR a0 a1 a2 a3 a4 a5 a6 b0 b1 b2 b3 b4 b5 b6 pf).2.2.2.2.2.2 = 0) :
 ∃ c bl sz st al kd,agreeR a0 a1 a2 a3 a4 a5 a6 b0 b1 b2 b3 b4 b5 b6 pf = (c,bl,sz,st,al,kd,0) ∧ validD c bl sz st al kd = true ∧
  fitsR c bl sz st al kd a0 a1 a2 a3 a4 a5 a6 = (true,0) ∧ fitsR c bl sz st al kd b0 b1 b2 b3 b4 b5 b6 = (true,0) := by
 revert h
 unfold agreeR
 by_cases hv : validW a0 a1 a2 a3 a4 a5 a6 = true ∧ validW b0 b1 b2 b3 b4 b5 b6 = true
 · rw [if_pos hv]
   by_cases hp : 0 ≤ pf ∧ pf ≤ 64
   · rw [if_pos hp]
     by_cases h2 : a2 = b2 ∧ a4 = b4 ∧ 0 ≤ kindF (fun j => a6.toNat.testBit j && b6.toNat.testBit j) 8 0
     · rw [if_pos h2]
       by_cases hc : mx a0 b0 ≤ mn a1 b1
       · rw [if_pos hc]
         by_cases hd : validD (mn (mx (mx a0 b0) pf) (mn a1 b1)) a2 (upN (mx a3 b3) a4) a4 (mx a5 b5) (kindF (fun j => a6.toNat.testBit j && b6.toNat.testBit j) 8 0) = true
         · rw [if_pos hd]
           intro _; refine ⟨_,_,_,_,_,_,rfl,hd,?_,?_⟩
           all_goals
            obtain ⟨⟨u1,u2,u3⟩,u4,u5,u6,u7,u8⟩ := Xj hv.1; obtain ⟨⟨v1,v2,v3⟩,v4,v5,v6,v7,v8⟩ := Xj hv.2
            have hbit : (a6.toNat.testBit (kindF (fun j => a6.toNat.testBit j && b6.toNat.testBit j) 8 0).toNat && b6.toNat.testBit (kindF (fun j => a6.toNat.testBit j && b6.toNat.testBit j) 8 0).toNat) = true := by
             refine Classical.byContradiction fun hn => ?_
             have : ∀ (d j : Nat),j + d ≤ 8 → 0 ≤ kindF (fun j => a6.toNat.testBit j && b6.toNat.testBit j) d j → (a6.toNat.testBit (kindF (fun j => a6.toNat.testBit j && b6.toNat.testBit j) d j).toNat && b6.toNat.testBit (kindF (fun j => a6.toNat.testBit j && b6.toNat.testBit j) d j).toNat) = true := by
              intro d
              induction d with
              | zero => intro j _ h0; exact absurd (show (0 : Int) ≤ -1 from h0) (by decide)
              | succ d ih =>
               intro j hj h0; unfold kindF at h0 ⊢; split
               · rename_i hb; simpa using hb
               · rename_i hb
                 rw [if_neg hb] at h0; exact ih (j + 1) (by omega) h0
             exact hn (this 8 0 (by omega) h2.2.2)
            have hup := Xl (n := mx a3 b3) (t := a4) u5.1; rw [Bool.and_eq_true] at hbit
           · unfold fitsR
             rw [if_pos hd,if_pos hv.1,decide_eq_true (show FitV _ _ _ _ _ _ _ _ _ _ _ _ _ from ⟨?_,rfl,rfl,?_,?_,hbit.1⟩)]
             · unfold mn mx at *; repeat' split
               all_goals (repeat' split at hc)
               all_goals omega
             · have : a3 ≤ mx a3 b3 := by unfold mx; split <;> omega
               omega
             · show a5 ≤ mx a5 b5
               unfold mx; split <;> omega
           · unfold fitsR
             rw [if_pos hd,if_pos hv.2,decide_eq_true (show FitV _ _ _ _ _ _ _ _ _ _ _ _ _ from ⟨?_,h2.1,h2.2.1,?_,?_,hbit.2⟩)]
             · unfold mn mx at *; repeat' split
               all_goals (repeat' split at hc)
               all_goals omega
             · have : b3 ≤ mx a3 b3 := by unfold mx; split <;> omega
               omega
             · show b5 ≤ mx a5 b5
               unfold mx; split <;> omega
         · rw [if_neg hd]; intro h; exact absurd h (by decide)
       · rw [if_neg hc]; intro h; exact absurd h (by decide)
     · rw [if_neg h2]; intro h; exact absurd h (by decide)
   · rw [if_neg hp]; intro h; exact absurd h (by decide)
 · rw [if_neg hv]; intro h; exact absurd h (by decide)
theorem QG : Z7.f 200 = some true := by decide +kernel
end Go.Proofs.Ytcdiecgenpigbaa.Pure

namespace Go.Proofs.Ytcdiecgenpigbaa.Pure
open Go.RowKit Go.Proofs.Ytcdiecgenpigbaa.PA Go.Proofs.YtcdiecgenpigbaaW.PrintWords Go.Proofs.YtcdiecgenpigbaaW.PrintLast Go.Proofs.YtcdiecgenpigbaaW.PrintMore
set_option linter.unusedVariables false
set_option linter.unusedSimpArgs false
theorem chk_row (rows : List (List Int)) (n i ci c bl sz st al kd : Int) (row : List Int) (hc0 : 0 ≤ ci) (hc1 : ci < (rows.length : Int)) (hrow : rd_L4 rows ci = row) (hl : row.length ≤ 1000) (h1 : 1 ≤ al) (h2 : al ≤ 256) (hs : 0 ≤ sz) (hs2 : sz ≤ 65536) :
 ∀ (d k j : Nat) (a : Int),row.drop j = rowG al sz d a → j + d = row.length → 0 ≤ a → a + d * 65791 ≤ 1900000000 →
  Zg.l1 (k + d + 1) rows n i a ci (j : Int) c bl sz st al kd = Zg.l0 k rows n i (endF al sz d a) (wrap64 (ci + 1)) c bl sz st al kd := by
 intro d
 induction d with
 | zero =>
  intro k j a hd hj ha hb; rw [Zg.l1.eq_2,if_pos hc0,if_pos hc1,hrow,if_neg (by omega)]; rfl
 | succ d ih =>
  intro k j a hd hj ha hb; have hu := Xl (n := a) (t := al) h1
  have hx : rd row (j : Int) = upN a al := by
   have h3 : (row.drop j)[0]? = some (upN a al) := by rw [hd]; rfl
   rw [List.getElem?_drop,Nat.add_zero] at h3; unfold rd; rw [Int.toNat_natCast,List.getD_eq_getElem?_getD,h3]; rfl
  have hd2 : row.drop (j + 1) = rowG al sz d (upN a al + sz) := by
   rw [← List.tail_drop,hd]; rfl
  rw [show k + (d + 1) + 1 = (k + d + 1) + 1 by omega,Zg.l1.eq_2,if_pos hc0,if_pos hc1,hrow,if_pos (by omega),if_pos (by omega),hx,if_neg (by omega),if_neg (by omega),if_pos (QE a al ha h1)]; rw [w64 (x := upN a al + sz) (by omega) (by omega),w64 (x := (j : Int) + 1) (by omega) (by omega)]; exact ih k (j + 1) (upN a al + sz) hd2 (by omega) (by omega) (by omega)
theorem chk_rows (rows : List (List Int)) (n c bl sz st al kd : Int) (B : Nat) (hB : B ≤ 8) (hlen : (rows.length : Int) = c) (hr : rows.length ≤ 64) (h1 : 1 ≤ al) (h2 : al ≤ 256) (hs : 0 ≤ sz) (hs2 : sz ≤ 65536) :
 ∀ (d k ci : Nat) (a : Int),rows.drop ci = rowsG al sz B d a → ci + d = rows.length → 0 ≤ a → a + (d * 8 : Nat) * 65791 ≤ 1900000000 → n = endF al sz (d * B) a → 300 + d * 20 ≤ k →
  Zg.l0 k rows n 0 a (ci : Int) c bl sz st al kd = some true := by
 intro d
 induction d with
 | zero =>
  intro k ci a hd hj ha hb hn hk
  obtain ⟨k,rfl⟩ : ∃ q,k = q + 1 := ⟨k - 1,by omega⟩
  have hn' : a = n := by rw [hn,Nat.zero_mul]; rfl
  rw [Zg.l0.eq_2,if_neg (by omega),if_pos rfl,if_pos hlen,if_pos hn',upb (g := fun k => Z7.f k) (fun k => Z7.mono k) QG k (by omega)]; rfl
 | succ d ih =>
  intro k ci a hd hj ha hb hn hk
  obtain ⟨k,rfl⟩ : ∃ q,k = q + 1 + B + 1 := ⟨k - B - 2,by omega⟩
  have hx : rd_L4 rows (ci : Int) = rowG al sz B a := by
   have h3 : (rows.drop ci)[0]? = some (rowG al sz B a) := by rw [hd]; rfl
   rw [List.getElem?_drop,Nat.add_zero] at h3; unfold rd_L4; rw [Int.toNat_natCast,List.getD_eq_getElem?_getD,h3]; rfl
  have hd2 : rows.drop (ci + 1) = rowsG al sz B d (endF al sz B a) := by
   rw [← List.tail_drop,hd]; rfl
  have hE := XH (al := al) (sz := sz) h1 h2 hs hs2 B a; rw [show k + 1 + B + 1 = (k + B + 1) + 1 by omega,Zg.l0.eq_2,if_pos (by omega)]; have hrow := chk_row rows n 0 (ci : Int) c bl sz st al kd (rowG al sz B a) (by omega) (by omega) hx (by rw [XL]; omega) h1 h2 hs hs2 B k 0 a rfl (by rw [XL]; omega) ha (by omega); rw [show ((0 : Nat) : Int) = 0 from rfl] at hrow; rw [hrow,w64 (by omega) (by omega)]; refine ih k (ci + 1) (endF al sz B a) hd2 (by omega) (by omega) (by omega) ?_ (by omega); rw [hn,show (d + 1) * B = B + d * B by rw [Nat.add_mul]; omega,Qi]
theorem PoolAgrees (a0 a1 a2 a3 a4 a5 a6 b0 b1 b2 b3 b4 b5 b6 pf c bl sz st al kd a : Int) :
 ∃ k,Zg.f k a0 a1 a2 a3 a4 a5 a6 b0 b1 b2 b3 b4 b5 b6 pf c bl sz st al kd a = some true := by
 refine ⟨10002,?_⟩; unfold Zg.f ZC.f; rw [XF _ (by omega),ref_agree_eq _ (by omega),X7,ref_fits_eq _ (by omega),lay_eq _ (by omega),XR _ (by omega)]
 obtain ⟨r,hr⟩ : ∃ r,ZR.f c bl sz st al kd a = some r := by
  unfold ZR.f; rw [Xq]; exact ⟨_,rfl⟩
 obtain ⟨hl1,hl2⟩ := lay_small hr; rw [hr]; simp only [Option.bind_some]; rw [mat_refl r.1 hl1 hl2 10002 (by omega)]; generalize hR : agreeR a0 a1 a2 a3 a4 a5 a6 b0 b1 b2 b3 b4 b5 b6 pf = R; generalize fitsR c bl sz st al kd a0 a1 a2 a3 a4 a5 a6 = F; simp only [Option.bind_some,bne_self_eq_false,beq_self_eq_true,Bool.not_true,Bool.or_false,Bool.false_eq_true,if_false,if_true]; rw [Zg.j0.eq_2,if_neg (by decide)]; have haw : Z7.f 10001 = some true := upb (g := fun k => Z7.f k) (fun k => Z7.mono k) QG 10001 (by omega)
 by_cases h0 : R.2.2.2.2.2.2 = 0
 · rw [if_pos h0]
   rw [← hR] at h0; obtain ⟨c',bl',sz',st',al',kd',he,hv,f1,f2⟩ := agree_ok h0; rw [XF _ (by omega),agree_comm,X7,X7]; rw [he] at hR ⊢; subst hR; simp only [Option.bind_some,f1,f2]; simp only [bne_self_eq_false,beq_self_eq_true,Bool.not_true,Bool.or_false,Bool.false_eq_true,if_false,if_true]; rw [Zg.j1.eq_2,if_neg (by decide)]; have hD : DealV c' bl' sz' st' al' kd' := of_decide_eq_true hv; have hok := Q7 hD; have e0 := hok.c0; have e1 := hok.c1; have e2 := hok.b0; have e3 := hok.b1; have e4 := hok.s0; have e5 := hok.s1; have e6 := hok.a0; have e7 := hok.a1
   have hL : ZR.f c' bl' sz' st' al' kd' 0 = some (rowsG al' sz' bl'.toNat c'.toNat 0,endF al' sz' (c'.toNat * bl'.toNat) 0,0) := by
    unfold ZR.f; rw [Xq,hv,Option.bind_some,if_pos rfl,if_pos (by omega),XU _ _ _ _ (by omega)]
   rw [hL,Option.bind_some]; exact chk_rows (rowsG al' sz' bl'.toNat c'.toNat 0) _ c' bl' sz' st' al' kd' bl'.toNat (by omega) (by rw [X6]; omega) (by rw [X6]; omega) e6 e7 e4 e5 c'.toNat 10000 0 0 rfl (by rw [X6]; omega) (by omega) (by omega) rfl (by omega)
 · rw [if_neg h0,haw]
   rfl
end Go.Proofs.Ytcdiecgenpigbaa.Pure
