/- Which curves there are, their values, and a curve that is cut: the program's and the reference's answers are alike, and a value lies between those of the points around; for all curves and numbers. -/
import Derived.Test.YtomlfbmfdoallaaCTempoCurves8
import Derived.Test.YtomlfbmfdoallaaRows
import Derived.WalkKit
import Derived.ProofKit
import Derived.OpenShut
import Derived.ShutString
import Derived.ChangeOld
import Derived.Below
import Derived.SizedLaws
import Derived.Lib.SmallJoins
namespace Go.Proofs.Ytomlfbmfdoallaa.tempoCurves
open Go.ChangeShapes Go.WideShapes Go.ChangeAt Go.RowKit Go.Joins
set_option linter.unusedVariables false
theorem own : ownKnob Try.prog.godebug = none := by kernel_rfl
theorem laidOut : laidOutB Try.prog = true := by kernel_rfl
def tr56 (zs : List (Int × Int × Int)) : List PA.S56 := zs.map fun p => ⟨p.1,p.2.1,p.2.2⟩
theorem kd56 {W : World} {a : Option Addr} {len cap : Nat} {zs : List (Int × Int × Int)} (h : Triples W a len cap zs) : Go.Proofs.YtomlfbmfdoallaaW.PrintWords.Kd.C PA.k56 W a (tr56 zs).length (tr56 zs) ∧ (tr56 zs).length = len := by
 obtain ⟨h1,h2,h3,_,h4⟩ := h
 have hl : (tr56 zs).length = len := by simp [tr56,h1]
 refine ⟨⟨rfl,by omega,fun hp => ?_⟩,hl⟩;obtain ⟨ad,e,hc⟩ := h4 (by omega);refine ⟨ad,e,fun j p hj => ?_⟩;simp only [tr56,List.getElem?_map,Option.map_eq_some_iff] at hj;obtain ⟨q,hq,rfl⟩ := hj;exact ⟨_,rfl,PA.k56_mk W _,hc j q hq⟩
set_option maxRecDepth 100000 in
theorem lifted (os : Os) (started : os.Started) (H : Type) (enc : TypeId × Value → H) :
 ReturnsInHanded {} Try.checked os 8 .any (Rows.tempoCurvesSpec.pre6 enc Try.prog Try.f8 Rows.tempoCurvesRow.domain false) (Rows.tempoCurvesSpec.post enc Try.prog Try.f8 false true false false) := by
 refine returnsInHanded_of_change_sized (C := Try.checked) own started (by kernel_rfl) Try.func8
  (ChangeSpec.witness6 (enc := enc) (C := Try.checked) false ⟨#[],#[.slice none 0 0,.int .i64 0,.int .i64 0,.int .i64 0],[]⟩ 8 (by kernel_rfl) (by kernel_rfl) (by kernel_rfl) (by kernel_rfl)) ?_
 intro W base args ds gs before hval0 hW hcnd hsz0 _;have hval : ∀ (j : Nat) t v,Try.f8.params[j]? = some t → args[j]? = some v → Value.okWide Try.prog W .any base t v := hval0;have hW' := hW;obtain ⟨p,q,hA0,hV,rfl,hfz,hnd⟩ := hW;have hA : DataW.TrodAll enc Try.prog W 0 (fun _ => true) true Try.f8.params.toList args.toList ds p := hA0;rw [Try.params8] at hA hval;obtain ⟨v0,vs0,d0,ds0,p0,q0,hargs,rfl,rfl,h0,r0⟩ := trodAll_cons hA;obtain ⟨v1,vs1,d1,ds1,p1,q1,rfl,rfl,rfl,h1,r1⟩ := trodAll_cons r0;obtain ⟨v2,vs2,d2,ds2,p2,q2,rfl,rfl,rfl,h2,r2⟩ := trodAll_cons r1;obtain ⟨v3,vs3,d3,ds3,p3,q3,rfl,rfl,rfl,h3,r3⟩ := trodAll_cons r2;obtain ⟨rfl,rfl,rfl⟩ := trodAll_nil r3
 obtain rfl : args = #[v0,v1,v2,v3] := by cases args;simp_all
 obtain ⟨rfl,rfl⟩ := trodVars_none hV;obtain ⟨a0,len0,cap0,rfl⟩ := okWide_slice Try.underlying45 (hval 0 45 v0 rfl rfl);have k0 := h0
 have lt0 : ∀ x ∈ p0,x.block < W.heap.size := by obtain ⟨m,hm⟩ := k0;exact DataW.trod_lt m _ _ _ hm
 obtain ⟨zs0,tz0⟩ : ∃ zs,Triples W a0 len0 cap0 zs := by
  obtain ⟨fuel,hf⟩ := h0;exact open_slice3 Try.underlying45 Try.underlying56 (by kernel_rfl) (by kernel_rfl) Try.underlying3 Try.underlying3 Try.underlying3 (by simpa [Value.cells] using hf)
 obtain ⟨kd0,kl0⟩ := kd56 tz0;obtain ⟨a1,rfl,rfl,rfl,w1⟩ := open_int Try.underlying3 (hval 1 3 v1 rfl rfl) h1;obtain ⟨a2,rfl,rfl,rfl,w2⟩ := open_int Try.underlying3 (hval 2 3 v2 rfl rfl) h2;obtain ⟨a3,rfl,rfl,rfl,w3⟩ := open_int Try.underlying3 (hval 3 3 v3 rfl rfl) h3;clear hA0 hval0 hsz0;obtain ⟨k,hk⟩ := Pure.TempoCurves (tr56 zs0) a1 a2 a3;have HC := PA.Zh.calls k a0 cap0 (tr56 zs0) a1 a2 a3 true W kd0 (by rw [kl0];exact tz0.2.1) hk;rw [kl0] at HC
 refine HC.mono fun e W' ⟨he,bel⟩ => ?_
 subst he;exact ⟨_,rfl,_,_,_,[],_,[],hW',trodAll_mk1 (shut_bool Try.underlying4 _),(trodAll_cons_mk (Below.trod laidOut (by kernel_rfl) (of_decide_eq_true (by kernel_rfl)) k0 bel lt0) (trodAll_cons_mk (shut_int Try.underlying3 w1) (trodAll_cons_mk (shut_int Try.underlying3 w2) (trodAll_cons_mk (shut_int Try.underlying3 w3) trodAll_mk0)))),rfl,bel.frame _,fun h => by cases h⟩
theorem over : Rows.tempoCurvesRow.holds Try.pinned (OpenSpec.ofChange Rows.tempoCurvesSpec) :=
 OpenClaim.holds_of_wide 8 Try.f8 rfl rfl rfl rfl rfl rfl rfl ⟨rfl,rfl,rfl,rfl,rfl⟩ rfl rfl rfl rfl rfl (by kernel_rfl) Try.func8 (by kernel_rfl)
  (of_decide_eq_true (by kernel_rfl)) (by unfold Func.isWrapper;first | (rw [if_pos (by decide +kernel)];kernel_rfl) | (rw [if_neg (by decide +kernel)];exact ⟨rfl,rfl⟩))
  (fun os started H enc _ => lifted os started H enc)
theorem proved : Rows.TempoCurvesSaid := over
#print axioms proved
end Go.Proofs.Ytomlfbmfdoallaa.tempoCurves
namespace Go.Proofs.Ytomlfbmfdoallaa
theorem tempoCurves_holds : Rows.TempoCurvesSaid := tempoCurves.proved
end Go.Proofs.Ytomlfbmfdoallaa
