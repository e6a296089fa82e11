/- The plain law of the pool: PoolAgrees. -/
import Derived.Test.YtcdiecgenpigbaaCPoolAgrees8
import Derived.Deep.Slices
import Derived.Deep.Fields
import Derived.ChangeSame
import Derived.Lib.SmallJoins
import Derived.Test.YtcdiecgenpigbaaRows
import Derived.WalkKit
import Derived.ProofKit
import Derived.OpenShut
import Derived.ShutString
import Derived.ChangeOld
import Derived.Below
import Derived.SizedLaws
namespace Go.Proofs.Ytcdiecgenpigbaa
open Go.ChangeShapes Go.WideShapes Go.Deep
set_option linter.unusedVariables false
section
variable {H : Type} {enc : TypeId × Value → H} {P : Program} {w : World} {base : Nat} {spare : Nat → Bool} {held : Bool}
theorem XV {I : TypeId} {r : Reach} {b0 : Nat} {t : TypeId} {fs : Array Field} {v : Value} {d : DataW H} {p : List MemPlace} (hs : P.underlying t = some (.struct fs)) (hone : oneCellFields P fs = true) (hC : P.cellsOf t = fs.size)
 (hi : fs.toList.all (fun f => f.type == I) = true) (hu : P.underlying I = some (.int .i64)) (hv : Value.okWide P w r b0 t v) (h : DataW.Trod enc P w base spare held t v d p) :
 ∃ zs : List Int,zs.length = fs.size ∧ v = .agg (zs.map fun z => Value.int .i64 z).toArray := by
 obtain ⟨cs,rfl,hsz⟩ := okWide_struct hs hv; obtain ⟨fuel,hf⟩ := h
 have hf' : DataW.trod enc P w base spare held fuel t cs.toList = some (d,p) := by simpa [Value.cells] using hf
 obtain ⟨xs,n,rfl,hx,hl,hlen,hfi⟩ := DataW.trod_struct hs hf'
 have key : ∀ j,j < fs.size → ∃ z,cs.toList[j]? = some (.int .i64 z) := by
  intro j hj; have hfj : fs[j]? = some fs[j] := Array.getElem?_eq_getElem hj; obtain ⟨o,c1⟩ := hone_of hone j fs[j] hfj; have h1 := hfi j fs[j] hfj; rw [o,c1] at h1
  have ht : fs[j].type = I := by
   have := List.all_eq_true.1 hi fs[j] (by simp)
   simpa using this
  rw [ht] at h1; have hxj : xs[j]? = some (xs[j]'(by omega)) := List.getElem?_eq_getElem (by omega); rw [hxj] at h1; obtain ⟨z,hz,_⟩ := DataW.trod_int hu h1; refine ⟨z,?_⟩
  have h2 : ((cs.toList.drop j).take 1)[0]? = some (.int .i64 z) := by rw [hz]; rfl
  rw [List.getElem?_take,if_pos (by omega),List.getElem?_drop,Nat.add_zero] at h2; exact h2
 refine ⟨cs.toList.map fun v => match v with | .int _ z => z | _ => 0,by simp [hsz,hC],?_⟩
 congr 1
 apply Array.toList_inj.1; rw [List.toList_toArray,List.map_map]; apply List.ext_getElem?; intro j
 by_cases hj : j < fs.size
 · obtain ⟨z,hz⟩ := key j hj
   rw [List.getElem?_map,hz]; rfl
 · rw [List.getElem?_eq_none (by simp; omega),List.getElem?_eq_none (by simp; omega)]
end
theorem list6 {α : Type} {cs : List α} (h : cs.length = 6) : ∃ c0 c1 c2 c3 c4 c5,cs = [c0,c1,c2,c3,c4,c5] := by
 match cs,h with
 | [c0,c1,c2,c3,c4,c5],_ => exact ⟨c0,c1,c2,c3,c4,c5,rfl⟩
theorem list7 {α : Type} {cs : List α} (h : cs.length = 7) : ∃ c0 c1 c2 c3 c4 c5 c6,cs = [c0,c1,c2,c3,c4,c5,c6] := by
 match cs,h with
 | [c0,c1,c2,c3,c4,c5,c6],_ => exact ⟨c0,c1,c2,c3,c4,c5,c6,rfl⟩
end Go.Proofs.Ytcdiecgenpigbaa

namespace Go.Proofs.Ytcdiecgenpigbaa.poolAgrees
open Go.ChangeShapes Go.WideShapes Go.ChangeAt Go.RowKit Go.Joins
set_option linter.unusedVariables false
theorem own : ownKnob Try.prog.godebug = none := by kernel_rfl
theorem laidOut : laidOutB Try.prog = true := by kernel_rfl
set_option maxRecDepth 100000 in
theorem lifted (os : Os) (started : os.Started) (H : Type) (enc : TypeId × Value → H) :
 ReturnsInHanded {} Try.checked os 3 .any (Rows.poolAgreesSpec.pre6 enc Try.prog Try.f3 Rows.poolAgreesRow.domain false) (Rows.poolAgreesSpec.post enc Try.prog Try.f3 false true false false) := by
 refine returnsInHanded_of_change_sized (C := Try.checked) own started (by kernel_rfl) Try.func3
  (ChangeSpec.witness6 (enc := enc) (C := Try.checked) false ⟨#[],#[.agg #[.int .i64 0,.int .i64 0,.int .i64 0,.int .i64 0,.int .i64 0,.int .i64 0,.int .i64 0],.agg #[.int .i64 0,.int .i64 0,.int .i64 0,.int .i64 0,.int .i64 0,.int .i64 0,.int .i64 0],.int .i64 0,.agg #[.int .i64 0,.int .i64 0,.int .i64 0,.int .i64 0,.int .i64 0,.int .i64 0],.int .i64 0],[]⟩ 8 (by kernel_rfl) (by kernel_rfl) (by kernel_rfl) (by kernel_rfl)) ?_
 intro W base args ds gs before hval0 hW hcnd hsz0 _; have hval : ∀ (j : Nat) t v,Try.f3.params[j]? = some t → args[j]? = some v → Value.okWide Try.prog W .any base t v := hval0; have hW' := hW; obtain ⟨p,q,hA0,hV,rfl,hfz,hnd⟩ := hW; have hA : DataW.TrodAll enc Try.prog W 0 (fun _ => true) true Try.f3.params.toList args.toList ds p := hA0; rw [Try.params3] at hA hval; obtain ⟨v0,vs0,d0,ds0,p0,q0,hargs,rfl,rfl,h0,r0⟩ := trodAll_cons hA; obtain ⟨v1,vs1,d1,ds1,p1,q1,rfl,rfl,rfl,h1,r1⟩ := trodAll_cons r0; obtain ⟨v2,vs2,d2,ds2,p2,q2,rfl,rfl,rfl,h2,r2⟩ := trodAll_cons r1; obtain ⟨v3,vs3,d3,ds3,p3,q3,rfl,rfl,rfl,h3,r3⟩ := trodAll_cons r2; obtain ⟨v4,vs4,d4,ds4,p4,q4,rfl,rfl,rfl,h4,r4⟩ := trodAll_cons r3; obtain ⟨rfl,rfl,rfl⟩ := trodAll_nil r4
 obtain rfl : args = #[v0,v1,v2,v3,v4] := by cases args; simp_all
 obtain ⟨rfl,rfl⟩ := trodVars_none hV; have k0 := h0
 have lt0 : ∀ x ∈ p0,x.block < W.heap.size := by obtain ⟨m,hm⟩ := k0; exact DataW.trod_lt m _ _ _ hm
 obtain ⟨zs0,zl0,rfl⟩ := XV Try.underlying23 (by kernel_rfl) (by kernel_rfl) (by kernel_rfl) Try.underlying3 (hval 0 23 v0 rfl rfl) h0; obtain ⟨a0_0,a0_1,a0_2,a0_3,a0_4,a0_5,a0_6,rfl⟩ := list7 zl0; have k1 := h1
 have lt1 : ∀ x ∈ p1,x.block < W.heap.size := by obtain ⟨m,hm⟩ := k1; exact DataW.trod_lt m _ _ _ hm
 obtain ⟨zs1,zl1,rfl⟩ := XV Try.underlying23 (by kernel_rfl) (by kernel_rfl) (by kernel_rfl) Try.underlying3 (hval 1 23 v1 rfl rfl) h1; obtain ⟨a1_0,a1_1,a1_2,a1_3,a1_4,a1_5,a1_6,rfl⟩ := list7 zl1; obtain ⟨a2,rfl,rfl,rfl,w2⟩ := open_int Try.underlying3 (hval 2 3 v2 rfl rfl) h2; have k3 := h3
 have lt3 : ∀ x ∈ p3,x.block < W.heap.size := by obtain ⟨m,hm⟩ := k3; exact DataW.trod_lt m _ _ _ hm
 obtain ⟨zs3,zl3,rfl⟩ := XV Try.underlying25 (by kernel_rfl) (by kernel_rfl) (by kernel_rfl) Try.underlying3 (hval 3 25 v3 rfl rfl) h3; obtain ⟨a3_0,a3_1,a3_2,a3_3,a3_4,a3_5,rfl⟩ := list6 zl3; obtain ⟨a4,rfl,rfl,rfl,w4⟩ := open_int Try.underlying3 (hval 4 3 v4 rfl rfl) h4; clear hA0 hval0 hsz0; obtain ⟨k,hk⟩ := Pure.PoolAgrees a0_0 a0_1 a0_2 a0_3 a0_4 a0_5 a0_6 a1_0 a1_1 a1_2 a1_3 a1_4 a1_5 a1_6 a2 a3_0 a3_1 a3_2 a3_3 a3_4 a3_5 a4; have HC := PA.Zg.calls k a0_0 a0_1 a0_2 a0_3 a0_4 a0_5 a0_6 a1_0 a1_1 a1_2 a1_3 a1_4 a1_5 a1_6 a2 a3_0 a3_1 a3_2 a3_3 a3_4 a3_5 a4 true W  hk
 refine HC.mono fun e W' ⟨he,bel⟩ => ?_
 subst he; exact ⟨_,rfl,_,_,_,[],_,[],hW',trodAll_mk1 (shut_bool Try.underlying4 _),(trodAll_cons_mk (Below.trod laidOut (by kernel_rfl) (of_decide_eq_true (by kernel_rfl)) k0 bel lt0) (trodAll_cons_mk (Below.trod laidOut (by kernel_rfl) (of_decide_eq_true (by kernel_rfl)) k1 bel lt1) (trodAll_cons_mk (shut_int Try.underlying3 w2) (trodAll_cons_mk (Below.trod laidOut (by kernel_rfl) (of_decide_eq_true (by kernel_rfl)) k3 bel lt3) (trodAll_cons_mk (shut_int Try.underlying3 w4) trodAll_mk0))))),rfl,bel.frame _,fun h => by cases h⟩
theorem over : Rows.poolAgreesRow.holds Try.pinned (OpenSpec.ofChange Rows.poolAgreesSpec) :=
 OpenClaim.holds_of_wide 3 Try.f3 rfl rfl rfl rfl rfl rfl rfl ⟨rfl,rfl,rfl,rfl,rfl⟩ rfl rfl rfl rfl rfl (by kernel_rfl) Try.func3 (by kernel_rfl)
  (of_decide_eq_true (by kernel_rfl)) (by unfold Func.isWrapper; first | (rw [if_pos (by decide +kernel)]; kernel_rfl) | (rw [if_neg (by decide +kernel)]; exact ⟨rfl,rfl⟩))
  (fun os started H enc _ => lifted os started H enc)
theorem proved : Rows.PoolAgreesSaid := over
#print axioms proved
end Go.Proofs.Ytcdiecgenpigbaa.poolAgrees
namespace Go.Proofs.Ytcdiecgenpigbaa
theorem poolAgrees_holds : Rows.PoolAgreesSaid := poolAgrees.proved
end Go.Proofs.Ytcdiecgenpigbaa
