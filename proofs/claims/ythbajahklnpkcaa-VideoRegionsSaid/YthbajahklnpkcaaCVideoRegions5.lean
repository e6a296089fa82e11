/- VideoRegions, part 5: what the row is built on. -/
import Derived.Test.YthbajahklnpkcaaCVideoRegions4
import Derived.Deep.RegionHeld3
import Derived.Lib.LazyBuf
import Derived.BigQuiet
namespace Go.Proofs.Ythbajahklnpkcaa.PA
open Go.RowKit Go.Proofs.YthbajahklnpkcaaW.PrintWords Go.Proofs.YthbajahklnpkcaaW.PrintLast Go.Proofs.YthbajahklnpkcaaW.PrintMore
set_option linter.unusedVariables false
set_option linter.unusedSimpArgs false
theorem ralike_l0 (a b u v : Int) (t s : List Sp) (hl : t.length = s.length) (hm : t.length ≤ 100000) : ∀ (n kk : Nat),t.length - kk = n → kk ≤ t.length → Ev (fun k => Zy.l0 k (t.map (rc a b)) (s.map (rc u v)) kk) (decide (t.drop kk = s.drop kk)) := by
 intro n
 induction n with
 | zero =>
  intro kk hn hk;refine Ev.pure (fun k => ?_);simp only [Zy.l0,List.length_map];rw [if_neg (by omega),List.drop_eq_nil_of_le (by omega),List.drop_eq_nil_of_le (by omega)];rfl
 | succ n ih =>
  intro kk hn hk
  have hlt : kk < t.length := by omega
  have hlt2 : kk < s.length := by omega
  have e0 : Ze (t.map (rc a b)) (kk : Int) = rc a b t[kk] := Qi (by rw [List.getElem?_map,List.getElem?_eq_getElem hlt];rfl);have e1 : Ze (s.map (rc u v)) (kk : Int) = rc u v s[kk] := Qi (by rw [List.getElem?_map,List.getElem?_eq_getElem hlt2];rfl);have hw : wrap64 ((kk : Int) + 1) = ((kk + 1 : Nat) : Int) := Xi (by omega)
  have i0 : (0 : Int) ≤ (kk : Int) := by omega
  have i1 : (kk : Int) < (t.length : Int) := by omega
  have i2 : (kk : Int) < (s.length : Int) := by omega
  rw [List.drop_eq_getElem_cons hlt,List.drop_eq_getElem_cons hlt2];have h := ih (kk + 1) (by omega) (by omega)
  by_cases h1 : t[kk].1 = s[kk].1
  · by_cases h2 : t[kk].2 = s[kk].2
    · refine Ev.step (fun k => ?_) (show Ev _ _ from by
       have : decide (t[kk] :: t.drop (kk + 1) = s[kk] :: s.drop (kk + 1)) = decide (t.drop (kk + 1) = s.drop (kk + 1)) := decide_eq_decide.mpr ⟨fun e => (List.cons.inj e).2,fun e => by rw [e,show t[kk] = s[kk] from Prod.ext h1 h2]⟩;rw [this]
       exact h)
      simp only [Zy.l0,List.length_map];rw [if_pos i1,if_pos i0,if_pos i2,e0,e1,if_pos (by simp [rc,h1]),if_pos (by simp [rc,h1,h2]),hw]
    · refine Ev.pure (fun k => ?_)
      simp only [Zy.l0,List.length_map];rw [if_pos i1,if_pos i0,if_pos i2,e0,e1,if_pos (by simp [rc,h1]),if_neg (by simp only [rc];omega)];rw [decide_eq_false (fun e => h2 (by rw [(List.cons.inj e).1]))]
  · refine Ev.pure (fun k => ?_)
    simp only [Zy.l0,List.length_map];rw [if_pos i1,if_pos i0,if_pos i2,e0,e1,if_neg (by simp only [rc];exact h1)];rw [decide_eq_false (fun e => h1 (by rw [(List.cons.inj e).1]))]
theorem ralike (a b u v : Int) (t s : List Sp) (hm : t.length ≤ 100000) (ha : -40000 ≤ a ∧ a ≤ 40000) (hb : -40000 ≤ b ∧ b ≤ 40000) : Ev (fun k => Zy.f k (t.map (rc a b)) (s.map (rc u v))) (decide (s ≠ [] ∧ b = u ∧ t = s)) := by
 have ht : ∀ q : Bool,q = true → (¬ (s ≠ [] ∧ b = u ∧ t = s)) → Ev (fun k => Zy.j0 k (t.map (rc a b)) (s.map (rc u v)) q) (decide (s ≠ [] ∧ b = u ∧ t = s)) := by
  intro q hq hn;rw [decide_eq_false hn,hq];exact Ev.pure (fun k => by simp only [Zy.j0,if_true])
 unfold Zy.f;simp only [List.length_map]
 by_cases hl : t.length = s.length
 · cases hs : s with
   | nil =>
    subst hs;refine Ev.congr (fun k => ?_) (ht true rfl (by simp));rw [if_pos (by omega),if_pos (by simp at hl;simp [hl])]
   | cons s0 sr =>
    cases htt : t with
    | nil => subst hs;subst htt;simp at hl
    | cons t0 tr =>
     subst hs;subst htt;have e0 : Ze ((t0 :: tr).map (rc a b)) 0 = rc a b t0 := rfl;have e1 : Ze ((s0 :: sr).map (rc u v)) 0 = rc u v s0 := rfl
     have w1 : wrap64 ((rc a b t0).f1 + (rc a b t0).f3) = b := by
      simp only [rc];rw [w64 (by omega) (by omega)];omega
     have key : Ev (fun k => Zy.j0 k ((t0 :: tr).map (rc a b)) ((s0 :: sr).map (rc u v)) (b != u)) (decide (s0 :: sr ≠ [] ∧ b = u ∧ t0 :: tr = s0 :: sr)) := by
      by_cases hbu : b = u
      · have h := ralike_l0 a b u v (t0 :: tr) (s0 :: sr) hl hm _ 0 rfl (Nat.zero_le _)
        rw [List.drop_zero,List.drop_zero] at h;have e : decide (s0 :: sr ≠ [] ∧ b = u ∧ t0 :: tr = s0 :: sr) = decide (t0 :: tr = s0 :: sr) := decide_eq_decide.mpr ⟨fun h => h.2.2,fun h => ⟨by simp,hbu,h⟩⟩;rw [e];refine Ev.step (fun k => ?_) h;simp only [Zy.j0];rw [if_neg (by simp [hbu])];rfl
      · exact ht _ (bne_iff_ne.mpr hbu) (fun h => hbu h.2.1)
     refine Ev.congr (fun k => ?_) key;rw [if_pos (by omega),if_neg (by simp;omega),if_pos (by simp),if_pos (by simp),e0,e1,w1];rfl
 · refine Ev.congr (fun k => ?_) (ht true rfl (fun h => hl (by rw [h.2.2])))
   rw [if_neg (by omega)]
def isH (how : Int) : Bool → Bool → Bool := if how = 1 then orB else if how = 2 then andB else lessB
def cells (p : Int → Bool) : List Int → List Sp
 | u :: v :: r => (if p u = true then [(u,v)] else []) ++ cells p (v :: r)
 | [_] => []
 | [] => []
theorem QU (p : Int → Bool) : ∀ (xs : List Int) (acc : List Sp),(cells p xs).foldl addS acc = rowR p xs acc
 | u :: v :: r,acc => by
  rw [cells,List.foldl_append,rowR]
  have : (if p u = true then [(u,v)] else []).foldl addS acc = addR acc u v (p u) := by
   cases hp : p u with
   | false => simp [addR]
   | true =>
    simp only [if_true,List.foldl_cons,List.foldl_nil]
    cases acc with
    | nil => rfl
    | cons q r => rfl
  rw [this];exact QU p (v :: r) _
 | [_],acc => rfl
 | [],acc => rfl
theorem JY (p : Int → Bool) : ∀ (xs : List Int),(∀ x ∈ xs,-40000 ≤ x ∧ x ≤ 40000) → (∀ q ∈ cells p xs,bdS q) ∧ (cells p xs).length ≤ xs.length
 | u :: v :: r,h => by
  obtain ⟨h1,h2⟩ := JY p (v :: r) (fun x hx => h x (by simp [hx]));have hu := h u (by simp);have hv := h v (by simp);rw [cells];constructor
  · intro q hq
    rcases List.mem_append.mp hq with hq | hq
    · split at hq
      · rw [List.mem_singleton.mp hq];exact ⟨hu.1,hu.2,hv.1,hv.2⟩
      · cases hq
    · exact h1 q hq
  · rw [List.length_append]
    split <;> simp at h2 ⊢ <;> omega
 | [_],_ => ⟨by simp [cells],by simp [cells]⟩
 | [],_ => ⟨by simp [cells],by simp [cells]⟩
theorem JT (xs : List Int) (i : Nat) (h : i + 1 < xs.length) : xs.drop i = rd xs i :: rd xs ((i + 1 : Nat) : Int) :: xs.drop (i + 2) := by
 have e1 : rd xs (i : Int) = xs[i] := by simp [rd,show i < xs.length by omega]
 have e2 : rd xs ((i + 1 : Nat) : Int) = xs[i + 1] := by simp [rd,h]
 rw [List.drop_eq_getElem_cons (by omega : i < xs.length),List.drop_eq_getElem_cons h,e1,e2]
theorem Jx (xs : List Int) (i : Nat) (h : i + 1 < xs.length) : xs.drop (i + 1) = rd xs ((i + 1 : Nat) : Int) :: xs.drop (i + 2) := by
 have e2 : rd xs ((i + 1 : Nat) : Int) = xs[i + 1] := by simp [rd,h]
 rw [List.drop_eq_getElem_cons h,e2]
theorem J3 (xs : List Int) (i : Nat) (h : i < xs.length) : rd xs (i : Int) ∈ xs := by
 have e1 : rd xs (i : Int) = xs[i] := by simp [rd,h]
 rw [e1];exact List.getElem_mem _
end Go.Proofs.Ythbajahklnpkcaa.PA

namespace Go.Proofs.Ythbajahklnpkcaa.PA
open Go.RowKit Go.Proofs.YthbajahklnpkcaaW.PrintWords Go.Proofs.YthbajahklnpkcaaW.PrintLast Go.Proofs.YthbajahklnpkcaaW.PrintMore
set_option linter.unusedVariables false
set_option linter.unusedSimpArgs false
theorem Jh (pre : List (List S43)) (x : List S43) : rd_L2 (pre ++ [x]) (pre.length : Int) = x := by simp [rd_L2]
theorem wrap_len (pre : List (List S43)) (x : List S43) (h : pre.length ≤ 100000) : wrap64 (((pre ++ [x]).length : Int) - 1) = (pre.length : Int) := by
 have e : ((pre ++ [x]).length : Int) = (pre.length : Int) + 1 := by simp
 rw [e,w64 (by omega) (by omega)];omega
theorem rcan_l3 (A B : List S43) (how : Int) (xs ys : List Int) (a u v : Int) (t : List Sp) (pre : List (List S43)) (jj : Int) (hp : pre.length ≤ 100000) (ht : t.length ≤ 100000)
 (ha : -40000 ≤ a ∧ a ≤ 40000) (hu : -40000 ≤ u ∧ u ≤ 40000) (hv : -40000 ≤ v ∧ v ≤ 40000) (r : List S43)
 (H : Ev (fun k => Zc.l1 k A B how xs ys (pre ++ [t.map (rc a v)]) (wrap64 (jj + 1))) r) :
 ∀ (n kk : Nat),t.length - kk = n → kk ≤ t.length → Ev (fun k => Zc.l3 k A B how xs ys (pre ++ [(t.take kk).map (rc a v) ++ (t.drop kk).map (rc a u)]) jj (t.map (rc u v)) ((pre.length + 1 : Nat) : Int) kk) r := by
 intro n
 induction n with
 | zero =>
  intro kk hn hk;rw [List.drop_eq_nil_of_le (by omega),List.take_of_length_le (by omega),List.map_nil,List.append_nil];refine Ev.step (fun k => ?_) H;simp only [Zc.l3,List.length_map];rw [if_neg (by omega)]
 | succ n ih =>
  intro kk hn hk
  have hlt : kk < t.length := by omega
  have hw : wrap64 ((kk : Int) + 1) = ((kk + 1 : Nat) : Int) := Xi (by omega)
  have hwl : wrap64 (((pre.length + 1 : Nat) : Int) - 1) = (pre.length : Int) := by rw [w64 (by omega) (by omega)];omega
  have i0 : (0 : Int) ≤ (kk : Int) := by omega
  have i1 : (kk : Int) < (t.length : Int) := by omega
  have htk : (t.take kk).length = kk := by rw [List.length_take];omega
  have hd : t.drop kk = t[kk] :: t.drop (kk + 1) := List.drop_eq_getElem_cons hlt
  have hlast : ((t.take kk).map (rc a v) ++ (t.drop kk).map (rc a u)).length = t.length := by simp;omega
  have e0 : Ze ((t.take kk).map (rc a v) ++ (t.drop kk).map (rc a u)) (kk : Int) = rc a u t[kk] := Qi (by
   rw [List.getElem?_append_right (by rw [List.length_map,htk];exact Nat.le_refl _),List.length_map,htk,Nat.sub_self,hd]
   rfl)
  have e1 : Ze (t.map (rc u v)) (kk : Int) = rc u v t[kk] := Qi (by rw [List.getElem?_map,List.getElem?_eq_getElem hlt];rfl);refine Ev.step (fun k => ?_) (ih (kk + 1) (by omega) (by omega));simp only [Zc.l3,List.length_map,hwl,Jh,hlast];rw [if_pos i1,if_pos (by omega),if_pos (by simp;omega),if_pos i0,if_pos i1,e0,e1,hw]
  congr 1
  have w1 : wrap64 ((rc a u t[kk]).f3 + (rc u v t[kk]).f3) = v - a := by
   simp only [rc];rw [w64 (by omega) (by omega)];omega
  rw [w1];simp only [Int.toNat_natCast];rw [List.set_append_right _ _ (Nat.le_refl _),Nat.sub_self,List.set_cons_zero,List.set_append_right _ _ (by simp;omega)]
  have e2 : kk - ((t.take kk).map (rc a v)).length = 0 := by simp;omega
  rw [e2,hd,List.map_cons,List.set_cons_zero]
  have e3 : t.take (kk + 1) = t.take kk ++ [t[kk]] := by rw [List.take_add_one,List.getElem?_eq_getElem hlt];rfl
  rw [e3,List.map_append];simp [rc]
theorem rcan_l4 (L : List (List S43)) (hl : L.length ≤ 100000) (hm : ∀ x ∈ L,x.length ≤ 100000) : ∀ (n kk : Nat) (acc : List S43),L.length - kk = n → kk ≤ L.length → acc.length ≤ kk * 100000 → Ev (fun k => Zc.l4 k L acc kk) (acc ++ (L.drop kk).flatten) := by
 intro n
 induction n with
 | zero =>
  intro kk acc hn hk ha;rw [List.drop_eq_nil_of_le (by omega)];refine Ev.pure (fun k => ?_);simp only [Zc.l4];rw [if_neg (by omega)];simp
 | succ n ih =>
  intro kk acc hn hk ha
  have hlt : kk < L.length := by omega
  have hw : wrap64 ((kk : Int) + 1) = ((kk + 1 : Nat) : Int) := Xi (by omega)
  have e0 : rd_L2 L (kk : Int) = L[kk] := by simp [rd_L2,hlt]
  have hx := hm L[kk] (List.getElem_mem _);rw [List.drop_eq_getElem_cons hlt,List.flatten_cons,← List.append_assoc];have hk2 : kk * 100000 ≤ 100000 * 100000 := Nat.mul_le_mul_right _ (by omega);refine Ev.step (fun k => ?_) (ih (kk + 1) (acc ++ L[kk]) (by omega) (by omega) (by rw [List.length_append,Nat.add_mul];omega));simp only [Zc.l4];rw [if_pos (by omega),if_pos (by omega),e0,if_pos (by omega),hw]
def okB1 (b : Bd) : Prop := b.2.2 ≠ [] ∧ b.2.2.length ≤ 100000 ∧ (-40000 ≤ b.1 ∧ b.1 ≤ 40000) ∧ (-40000 ≤ b.2.1 ∧ b.2.1 ≤ 40000)
theorem Q0 : ∀ (c acc : List Sp),(c.foldl addS acc).length ≤ acc.length + c.length
 | [],acc => by simp
 | s :: c,acc => by
  have h1 := Q0 c (addS acc s);have h2 := JQ acc s;simp only [List.foldl_cons,List.length_cons];omega
theorem JO (A B : List S43) (how : Int) (xs ys : List Int) (acc : List Bd) (hacc : ∀ b ∈ acc,okB1 b) (hal : acc.length ≤ 100000) (u v jj : Int) (hu : -40000 ≤ u ∧ u ≤ 40000) (hv : -40000 ≤ v ∧ v ≤ 40000)
 (c : List Sp) (hc : ∀ q ∈ c,bdS q) (hcl : c.length ≤ 100000) (i : Nat) (hi : ¬ ((i + 1 : Nat) : Int) < (xs.length : Int)) (hi2 : i ≤ 100000) (r : List S43)
 (H : Ev (fun k => Zc.l1 k A B how xs ys ((addB acc u v (c.foldl addS []).reverse).reverse.map bandL) (wrap64 (jj + 1))) r) :
 Ev (fun k => Zc.l2 k A B how xs ys (acc.reverse.map bandL) jj (c.map (rc u v)) i) r := by
 have hw : wrap64 ((i : Int) + 1) = ((i + 1 : Nat) : Int) := Xi (by omega);have hR := rrow u v c hc hcl
 have hsl : ((c.foldl addS []).reverse).length ≤ 100000 := by
  have := Q0 c [];rw [List.length_reverse];simp at this;omega
 generalize (c.foldl addS []).reverse = sp at H hR hsl
 have hJ : ∀ (x11 : List (List S43)) (n : Int),x11.length ≤ 100000 → Ev (fun k => Zc.l1 k A B how xs ys (if sp = [] then x11 else x11 ++ [sp.map (rc u v)]) (wrap64 (jj + 1))) r → Ev (fun k => Zc.j4 k A B how xs ys x11 jj (sp.map (rc u v)) n false) r := by
  intro x11 n hx hh;refine Ev.step (fun k => ?_) hh;simp only [Zc.j4,List.length_map];rw [if_neg (by decide)]
  cases sp with
  | nil => rw [if_neg (by simp),if_pos rfl]
  | cons s0 sr => rw [if_pos (by simp),if_pos (by omega),if_neg (by simp)]
 cases acc with
 | nil =>
  refine Ev.step (h := fun k => (Zv.f k (c.map (rc u v))).bind fun t347 => Zc.j4 k A B how xs ys [] jj t347 ((([] : List (List S43)).length : Nat) : Int) false) (fun k => ?_) (Ev.bind hR (hJ [] _ (by simp) ?_))
  · simp only [Zc.l2]
    rw [hw,if_neg hi];rfl
  · cases sp with
    | nil => exact H
    | cons s0 sr => exact H
 | cons q rr =>
  obtain ⟨a,b,t⟩ := q;have hq := hacc (a,b,t) (by simp)
  have hx11 : (((a,b,t) :: rr).reverse.map bandL) = rr.reverse.map bandL ++ [t.map (rc a b)] := by simp [YW]
  have hpl : (rr.reverse.map bandL).length ≤ 100000 := by simp at hal ⊢;omega
  rw [hx11];generalize hpre : rr.reverse.map bandL = pre at hpl;have hwl := wrap_len pre (t.map (rc a b)) hpl;refine Ev.step (h := fun k => (Zv.f k (c.map (rc u v))).bind fun t347 => (Zy.f k (t.map (rc a b)) t347).bind fun t351 => Zc.j4 k A B how xs ys (pre ++ [t.map (rc a b)]) jj t347 (((pre ++ [t.map (rc a b)]).length : Nat) : Int) t351) (fun k => ?_) (Ev.bind hR (Ev.bind (ralike a b u v t sp hq.2.1 hq.2.2.1 hq.2.2.2) ?_))
  · simp only [Zc.l2]
    rw [hw,if_neg hi,hwl];simp only [Jh]
    congr 1
    funext t347
    rw [if_pos (by simp),if_pos (by omega),if_pos (by simp;omega)]
  · by_cases hd : sp ≠ [] ∧ b = u ∧ t = sp
    · rw [decide_eq_true hd]
      obtain ⟨h1,h2,h3⟩ := hd;subst h2;subst h3
      have hb : addB ((a,b,t) :: rr) b v t = (a,v,t) :: rr := by
       cases t with
       | nil => exact absurd rfl h1
       | cons t0 tr => simp [addB]
      rw [hb] at H
      have hx : ((a,v,t) :: rr).reverse.map bandL = pre ++ [t.map (rc a v)] := by rw [← hpre];simp [YW]
      rw [hx] at H;have h3 := rcan_l3 A B how xs ys a b v t pre jj hpl hq.2.1 hq.2.2.1 hu hv r H _ 0 rfl (Nat.zero_le _);rw [List.take_zero,List.drop_zero,List.map_nil,List.nil_append] at h3;refine Ev.step (fun k => ?_) h3;simp only [Zc.j4,if_true]
      congr 1
      simp
    · rw [decide_eq_false hd]
      refine hJ _ _ (by simp at hal ⊢;rw [← hpre];simp;omega) ?_
      cases sp with
      | nil =>
       rw [if_pos rfl];have hb : addB ((a,b,t) :: rr) u v [] = (a,b,t) :: rr := rfl;rw [hb,hx11,hpre] at H;exact H
      | cons s0 sr =>
       rw [if_neg (by simp)]
       have hb : addB ((a,b,t) :: rr) u v (s0 :: sr) = (u,v,s0 :: sr) :: (a,b,t) :: rr := by
        show (if b = u ∧ t = s0 :: sr then (a,v,t) :: rr else (u,v,s0 :: sr) :: (a,b,t) :: rr) = _;exact if_neg (fun h => hd ⟨by simp,h.1,h.2⟩)
       rw [hb] at H
       have hx : ((u,v,s0 :: sr) :: (a,b,t) :: rr).reverse.map bandL = pre ++ [t.map (rc a b)] ++ [(s0 :: sr).map (rc u v)] := by
        rw [← hpre];simp [YW,bandL,rc]
       rw [hx] at H;exact H
end Go.Proofs.Ythbajahklnpkcaa.PA

namespace Go.Proofs.Ythbajahklnpkcaa.PA
open Go.RowKit Go.Proofs.YthbajahklnpkcaaW.PrintWords Go.Proofs.YthbajahklnpkcaaW.PrintLast Go.Proofs.YthbajahklnpkcaaW.PrintMore
set_option linter.unusedVariables false
set_option linter.unusedSimpArgs false
theorem Yv (p : Int → Bool) (l : List Int) (h : l.length ≤ 1) : cells p l = [] := by
 match l,h with
 | [],_ => rfl
 | [_],_ => rfl
theorem JW {i L : Nat} (h : i + 1 < L) (hL : L ≤ 100000) : wrap64 ((i : Int) + 1) = ((i + 1 : Nat) : Int) ∧ (0 : Int) ≤ (i : Int) ∧ (i : Int) < (L : Int) ∧ ((i + 1 : Nat) : Int) < (L : Int) ∧ (0 : Int) ≤ ((i + 1 : Nat) : Int) ∧ i < L ∧ i + 1 ≤ L ∧ i ≤ 100000 := ⟨Xi (by omega),by omega,by omega,by omega,by omega,by omega,by omega,by omega⟩
theorem sub_nums {i L n : Nat} (h : L - i = n + 1) : L - (i + 1) = n ∧ i < L := ⟨by omega,by omega⟩
theorem JL {i L : Nat} (h : ¬ i + 1 < L) (hi : i ≤ L) (hL : L ≤ 100000) : L - i ≤ 1 ∧ ¬ ((i + 1 : Nat) : Int) < (L : Int) ∧ i ≤ 100000 := ⟨by omega,by omega,by omega⟩
theorem sub_pos' {i L : Nat} (h : L - i = 0) (h2 : i + 1 < L) : False := by omega
theorem Vr {x y : Int} (hx : -40000 ≤ x ∧ x ≤ 40000) (hy : -40000 ≤ y ∧ y ≤ 40000) : wrap64 (y - x) = y - x := w64 (by omega) (by omega)
theorem Vb {n m : Nat} (h : n ≤ m) (hm : m ≤ 100000) : n ≤ 9223372036854775807 ∧ n < 4398046511104 ∧ n ≤ 100000 := ⟨by omega,by omega,by omega⟩
theorem rcan_l2 (A B : List S43) (hA : A.length ≤ 100000) (hB : B.length ≤ 100000) (how : Int) (hh : how = 1 ∨ how = 2 ∨ how = 3) (xs ys : List Int) (hxl : xs.length ≤ 100000) (hxb : ∀ x ∈ xs,-40000 ≤ x ∧ x ≤ 40000) (hyl : ys.length ≤ 100000)
 (acc : List Bd) (hacc : ∀ b ∈ acc,okB1 b) (hal : acc.length ≤ 100000) (jj : Nat) (hjj : jj + 1 < ys.length) (u v : Int) (hru : rd ys (jj : Int) = u) (hrv : rd ys ((jj + 1 : Nat) : Int) = v) (hu : -40000 ≤ u ∧ u ≤ 40000) (hv : -40000 ≤ v ∧ v ≤ 40000) (r : List S43) :
 ∀ (n i : Nat) (c : List Sp),xs.length - i = n → i ≤ xs.length → (∀ q ∈ c,bdS q) → c.length ≤ i →
 Ev (fun k => Zc.l1 k A B how xs ys ((addB acc u v ((c ++ cells (fun x => isH how (covL A x u) (covL B x u)) (xs.drop i)).foldl addS []).reverse).reverse.map bandL) (wrap64 ((jj : Int) + 1))) r →
 Ev (fun k => Zc.l2 k A B how xs ys (acc.reverse.map bandL) (jj : Int) (c.map (rc u v)) i) r := by
 intro n
 induction n with
 | zero =>
  intro i c hn hi hc hcl H;obtain ⟨k1,k2,k3⟩ := JL (i := i) (L := xs.length) (fun h => by have := sub_pos' hn h;exact this) hi hxl;rw [Yv _ _ (by rw [List.length_drop];exact k1),List.append_nil] at H;exact JO A B how xs ys acc hacc hal u v jj hu hv c hc (Nat.le_trans hcl k3) i k2 k3 r H
 | succ n ih =>
  intro i c hn hi hc hcl H;obtain ⟨hn1,hil⟩ := sub_nums hn
  by_cases hlt : i + 1 < xs.length
  · obtain ⟨hw,i0,i1,i2,i3,_,hi1,hi5⟩ := JW hlt hxl
    obtain ⟨hwj,j0,j1,j2,j3,_,_,_⟩ := JW hjj hyl;have hx0 := hxb _ (J3 xs i hil);have hx1 := hxb _ (J3 xs (i + 1) hlt)
    have hcells : cells (fun x => isH how (covL A x u) (covL B x u)) (xs.drop i) = (if isH how (covL A (rd xs (i : Int)) u) (covL B (rd xs (i : Int)) u) = true then [(rd xs (i : Int),rd xs ((i + 1 : Nat) : Int))] else []) ++ cells (fun x => isH how (covL A x u) (covL B x u)) (xs.drop (i + 1)) := by
     rw [JT xs i hlt,cells,Jx xs i hlt]
    rw [hcells] at H;have hbA := (Vb (Nat.le_refl _) hA).1;have hbB := (Vb (Nat.le_refl _) hB).1;refine Ev.step (h := fun k => (Z0.f k A (rd xs (i : Int)) u).bind fun t334 => (Z0.f k B (rd xs (i : Int)) u).bind fun t337 => Zc.j3 k A B how xs ys (acc.reverse.map bandL) jj (c.map (rc u v)) i (isH how t334 t337)) (fun k => ?_) (Ev.bind (rhas A (rd xs (i : Int)) u hbA) (Ev.bind (rhas B (rd xs (i : Int)) u hbB) ?_))
    · simp only [Zc.l2]
      rw [hw,if_pos i2,if_pos i0,if_pos i1,if_pos j0,if_pos j1,hru]
      congr 1
      funext t334
      congr 1
      funext t337
      rcases hh with rfl | rfl | rfl <;> cases t334 <;> cases t337 <;> rfl
    · cases hq : isH how (covL A (rd xs (i : Int)) u) (covL B (rd xs (i : Int)) u) with
      | true =>
       rw [hq,if_pos rfl,← List.append_assoc] at H
       refine Ev.step (fun k => ?_) (ih (i + 1) (c ++ [(rd xs (i : Int),rd xs ((i + 1 : Nat) : Int))]) hn1 hi1 (by
        intro q hqm
        rcases List.mem_append.mp hqm with h | h
        · exact hc q h
        · rw [List.mem_singleton.mp h];exact ⟨hx0.1,hx0.2,hx1.1,hx1.2⟩) (by rw [List.length_append];exact Nat.succ_le_succ hcl) H)
       simp only [Zc.j3,if_true];rw [hw,hwj,if_pos i0,if_pos i1,if_pos j0,if_pos j1,if_pos i3,if_pos i2,if_pos j3,if_pos j2,if_pos (by rw [List.length_map];exact (Vb hcl hi5).2.1),hru,hrv]
       congr 1
       rw [List.map_append,Vr hx0 hx1,Vr hu hv];rfl
      | false =>
       rw [hq,if_neg (by decide),List.nil_append] at H;refine Ev.step (fun k => ?_) (ih (i + 1) c hn1 hi1 hc (Nat.le_succ_of_le hcl) H);simp only [Zc.j3];rw [if_neg (by decide),hw]
  · obtain ⟨k1,k2,k3⟩ := JL hlt hi hxl
    rw [Yv _ _ (by rw [List.length_drop];exact k1),List.append_nil] at H;exact JO A B how xs ys acc hacc hal u v jj hu hv c hc (Nat.le_trans hcl k3) i k2 k3 r H
theorem addB_ok1 {acc : List Bd} {u v : Int} {s : List Sp} (h : ∀ b ∈ acc,okB1 b) (hs : s.length ≤ 100000) (hu : -40000 ≤ u ∧ u ≤ 40000) (hv : -40000 ≤ v ∧ v ≤ 40000) : ∀ b ∈ addB acc u v s,okB1 b := by
 intro b hb
 cases s with
 | nil => exact h b hb
 | cons s0 sr =>
  cases acc with
  | nil =>
   rw [show addB [] u v (s0 :: sr) = [(u,v,s0 :: sr)] from rfl] at hb;rw [List.mem_singleton.mp hb];exact ⟨by simp,hs,hu,hv⟩
  | cons q r =>
   obtain ⟨a,e,t⟩ := q;have hq := h (a,e,t) (by simp);rw [show addB ((a,e,t) :: r) u v (s0 :: sr) = if e = u ∧ t = s0 :: sr then (a,v,t) :: r else (u,v,s0 :: sr) :: (a,e,t) :: r from rfl] at hb;split at hb
   · rcases List.mem_cons.mp hb with rfl | hb
     · exact ⟨hq.1,hq.2.1,hq.2.2.1,hv⟩
     · exact h b (by simp [hb])
   · rcases List.mem_cons.mp hb with rfl | hb
     · exact ⟨by simp,hs,hu,hv⟩
     · exact h b hb
theorem addB_len1 (acc : List Bd) (u v : Int) (s : List Sp) : (addB acc u v s).length ≤ acc.length + 1 := by
 cases s with
 | nil => exact Nat.le_succ _
 | cons s0 sr =>
  cases acc with
  | nil => exact Nat.le_refl _
  | cons q r =>
   obtain ⟨a,e,t⟩ := q;rw [show addB ((a,e,t) :: r) u v (s0 :: sr) = if e = u ∧ t = s0 :: sr then (a,v,t) :: r else (u,v,s0 :: sr) :: (a,e,t) :: r from rfl]
   split <;> simp
def rowF (how : Int) (A B : List S43) (xs : List Int) (y : Int) : List Sp := (rowR (fun x => isH how (covL A x y) (covL B x y)) xs []).reverse
theorem rowF_len (how : Int) (A B : List S43) (xs : List Int) (y : Int) (h : ∀ x ∈ xs,-40000 ≤ x ∧ x ≤ 40000) : (rowF how A B xs y).length ≤ xs.length := by
 unfold rowF;rw [← QU,List.length_reverse];have h1 := Q0 (cells (fun x => isH how (covL A x y) (covL B x y)) xs) [];have h2 := (JY (fun x => isH how (covL A x y) (covL B x y)) xs h).2;simp at h1;omega
theorem rcan_l1 (A B : List S43) (hA : A.length ≤ 100000) (hB : B.length ≤ 100000) (how : Int) (hh : how = 1 ∨ how = 2 ∨ how = 3) (xs ys : List Int) (hxl : xs.length ≤ 100000) (hxb : ∀ x ∈ xs,-40000 ≤ x ∧ x ≤ 40000) (hyl : ys.length ≤ 100000) (hyb : ∀ x ∈ ys,-40000 ≤ x ∧ x ≤ 40000) :
 ∀ (n jj : Nat) (acc : List Bd),ys.length - jj = n → jj ≤ ys.length → (∀ b ∈ acc,okB1 b) → acc.length ≤ jj → Ev (fun k => Zc.l1 k A B how xs ys (acc.reverse.map bandL) jj) (flatB (bandR (rowF how A B xs) (ys.drop jj) acc)) := by
 have fin : ∀ (jj : Nat) (acc : List Bd),¬ jj + 1 < ys.length → jj ≤ ys.length → (∀ b ∈ acc,okB1 b) → acc.length ≤ jj → Ev (fun k => Zc.l1 k A B how xs ys (acc.reverse.map bandL) jj) (flatB (bandR (rowF how A B xs) (ys.drop jj) acc)) := by
  intro jj acc hj hjl hok hal;have hw : wrap64 ((jj : Int) + 1) = ((jj + 1 : Nat) : Int) := Xi (by omega)
  have hb : bandR (rowF how A B xs) (ys.drop jj) acc = acc := by
   have hl : (ys.drop jj).length ≤ 1 := by rw [List.length_drop];omega
   generalize ys.drop jj = l at hl
   match l,hl with
   | [],_ => rfl
   | [_],_ => rfl
  rw [hb]
  have h4 := rcan_l4 (acc.reverse.map bandL) (by simp;omega) (by
   intro x hx;obtain ⟨b,hb,rfl⟩ := List.mem_map.mp hx;have := (hok b (by simpa using hb)).2.1;rw [bandL]
   simpa using this) _ 0 [] rfl (Nat.zero_le _) (by simp)
  rw [List.nil_append,List.drop_zero] at h4
  have hf : (acc.reverse.map bandL).flatten = flatB acc := by rw [flatB,List.flatMap]
  rw [hf] at h4;refine Ev.step (fun k => ?_) h4;simp only [Zc.l1];rw [hw,if_neg (by omega)];rfl
 intro n
 induction n with
 | zero => intro jj acc hn hj hok hal;exact fin jj acc (by omega) hj hok hal
 | succ n ih =>
  intro jj acc hn hj hok hal
  by_cases hlt : jj + 1 < ys.length
  · have hw : wrap64 ((jj : Int) + 1) = ((jj + 1 : Nat) : Int) := Xi (by omega)
    have hu := hyb _ (J3 ys jj (by omega));have hv := hyb _ (J3 ys (jj + 1) hlt)
    have hd : bandR (rowF how A B xs) (ys.drop jj) acc = bandR (rowF how A B xs) (ys.drop (jj + 1)) (addB acc (rd ys (jj : Int)) (rd ys ((jj + 1 : Nat) : Int)) (rowF how A B xs (rd ys (jj : Int)))) := by
     rw [JT ys jj hlt,bandR,Jx ys jj hlt]
    rw [hd];have h := ih (jj + 1) (addB acc (rd ys (jj : Int)) (rd ys ((jj + 1 : Nat) : Int)) (rowF how A B xs (rd ys (jj : Int)))) (by omega) (by omega) (addB_ok1 hok (by have := rowF_len how A B xs (rd ys (jj : Int)) hxb;omega) hu hv) (by have := addB_len1 acc (rd ys (jj : Int)) (rd ys ((jj + 1 : Nat) : Int)) (rowF how A B xs (rd ys (jj : Int)));omega)
    have h2 := rcan_l2 A B hA hB how hh xs ys hxl hxb hyl acc hok (by omega) jj hlt _ _ rfl rfl hu hv (flatB (bandR (rowF how A B xs) (ys.drop (jj + 1)) (addB acc (rd ys (jj : Int)) (rd ys ((jj + 1 : Nat) : Int)) (rowF how A B xs (rd ys (jj : Int)))))) _ 0 [] rfl (Nat.zero_le _) (by intro q hq;cases hq) (Nat.zero_le _) (by
     rw [List.nil_append,List.drop_zero,QU,hw]
     exact h)
    refine Ev.step (fun k => ?_) h2;simp only [Zc.l1];rw [hw,if_pos (by omega)];rfl
  · exact fin jj acc hlt hj hok hal
end Go.Proofs.Ythbajahklnpkcaa.PA

namespace Go.Proofs.Ythbajahklnpkcaa.PA
open Go.RowKit Go.Proofs.YthbajahklnpkcaaW.PrintWords Go.Proofs.YthbajahklnpkcaaW.PrintLast Go.Proofs.YthbajahklnpkcaaW.PrintMore
set_option linter.unusedVariables false
set_option linter.unusedSimpArgs false
def gX (l : List S43) : List Int := l.flatMap fun r => [r.f0,wrap64 (r.f0 + r.f2)]
def gY (l : List S43) : List Int := l.flatMap fun r => [r.f1,wrap64 (r.f1 + r.f3)]
theorem V0 : ∀ l : List S43,(gX l).length = 2 * l.length
 | [] => rfl
 | r :: l => by rw [gX,List.flatMap_cons,List.length_append];have := V0 l;rw [gX] at this;rw [this];simp;omega
theorem Vz : ∀ l : List S43,(gY l).length = 2 * l.length
 | [] => rfl
 | r :: l => by rw [gY,List.flatMap_cons,List.length_append];have := Vz l;rw [gY] at this;rw [this];simp;omega
theorem rd43_app_left (A B : List S43) (i : Nat) (h : i < A.length) : (A ++ B)[i]? = some (Ze A (i : Int)) := by rw [List.getElem?_append_left h];exact Xr A i h
theorem rd43_app_right (A B : List S43) (j : Nat) (h : j < B.length) : (A ++ B)[A.length + j]? = some (Ze B (j : Int)) := by rw [List.getElem?_append_right (Nat.le_add_right _ _),Nat.add_sub_cancel_left];exact Xr B j h
theorem Vt (l : List S43) (i : Nat) (x : S43) (h : l[i]? = some x) : gX (l.drop i) = [x.f0,wrap64 (x.f0 + x.f2)] ++ gX (l.drop (i + 1)) := by
 obtain ⟨hlt,rfl⟩ := List.getElem?_eq_some_iff.1 h;rw [List.drop_eq_getElem_cons hlt,gX,List.flatMap_cons];rfl
theorem Vp (l : List S43) (i : Nat) (x : S43) (h : l[i]? = some x) : gY (l.drop i) = [x.f1,wrap64 (x.f1 + x.f3)] ++ gY (l.drop (i + 1)) := by
 obtain ⟨hlt,rfl⟩ := List.getElem?_eq_some_iff.1 h;rw [List.drop_eq_getElem_cons hlt,gY,List.flatMap_cons];rfl
theorem l0_nums {i a b : Nat} (h : i < a + b) (ha : a ≤ 10000) (hb : b ≤ 10000) : wrap64 ((a : Int) + (b : Int)) = (a : Int) + (b : Int) ∧ (i : Int) < (a : Int) + (b : Int) ∧ (0 : Int) ≤ (i : Int) ∧ wrap64 ((i : Int) + 1) = ((i + 1 : Nat) : Int) := ⟨w64 (by omega) (by omega),by omega,by omega,Xi (by omega)⟩
theorem l0_right {a j b : Nat} (h : a + j < a + b) (ha : a ≤ 10000) (hb : b ≤ 10000) : wrap64 (((a + j : Nat) : Int) - (a : Int)) = (j : Int) ∧ ¬ ((a + j : Nat) : Int) < (a : Int) ∧ (0 : Int) ≤ (j : Int) ∧ (j : Int) < (b : Int) ∧ j < b := ⟨by rw [w64 (by omega) (by omega)];omega,by omega,by omega,by omega,by omega⟩
theorem rcan_l0 (A B : List S43) (hA : A.length ≤ 10000) (hB : B.length ≤ 10000) (how : Int) (r : List S43)
 (H : Ev (fun k => Zc.l1 k A B how (cutsL (gX (A ++ B))) (cutsL (gY (A ++ B))) [] 0) r) :
 ∀ (n i : Nat) (xs ys : List Int),A.length + B.length - i = n → i ≤ A.length + B.length → xs ++ gX ((A ++ B).drop i) = gX (A ++ B) → ys ++ gY ((A ++ B).drop i) = gY (A ++ B) → xs.length ≤ 2 * i → ys.length ≤ 2 * i →
 Ev (fun k => Zc.l0 k A B how xs ys i) r := by
 intro n
 induction n with
 | zero =>
  intro i xs ys hn hi hx hy hxl hyl
  have hi2 : i = A.length + B.length := by omega
  rw [List.drop_eq_nil_of_le (by rw [List.length_append];omega)] at hx hy
  have hx' : xs = gX (A ++ B) := by rw [← hx];simp [gX]
  have hy' : ys = gY (A ++ B) := by rw [← hy];simp [gY]
  have hw : wrap64 ((A.length : Int) + (B.length : Int)) = (A.length : Int) + (B.length : Int) := w64 (by omega) (by omega)
  have hc : ∀ l : List Int,l.length ≤ 2 * i → Xb.f l = some (cutsL l) := fun l hl => by unfold Xb.f;exact if_pos (by omega)
  refine Ev.step (fun k => ?_) H;simp only [Zc.l0];rw [hw,if_neg (by omega),hc xs hxl,hc ys hyl];show Zc.l1 k A B how (cutsL xs) (cutsL ys) [] 0 = _;rw [hx',hy']
 | succ n ih =>
  intro i xs ys hn hi hx hy hxl hyl
  have hlt : i < A.length + B.length := by omega
  have hn1 : A.length + B.length - (i + 1) = n := by omega
  obtain ⟨hw,i1,i0,hs⟩ := l0_nums hlt hA hB
  have small : ∀ l : List Int,l.length ≤ 2 * i → l.length + 2 < 17592186044416 := fun l hl => by omega
  by_cases hl : i < A.length
  · have e := rd43_app_left A B i hl
    have hlz : (i : Int) < (A.length : Int) := by omega
    rw [Vt _ _ _ e,← List.append_assoc] at hx;rw [Vp _ _ _ e,← List.append_assoc] at hy;refine Ev.step (fun k => ?_) (ih (i + 1) _ _ hn1 hlt hx hy (by rw [List.length_append];simp;omega) (by rw [List.length_append];simp;omega));simp only [Zc.l0];rw [hw,if_pos i1,if_pos hlz,if_pos i0];simp only [Option.bind_some,List.length_cons,List.length_nil];rw [if_pos (small xs hxl),if_pos (small ys hyl),hs]
  · obtain ⟨j,rfl⟩ : ∃ j,i = A.length + j := ⟨i - A.length,by omega⟩
    obtain ⟨hsub,q1,q2,q3,q4⟩ := l0_right hlt hA hB;have e := rd43_app_right A B j q4;rw [Vt _ _ _ e,← List.append_assoc] at hx;rw [Vp _ _ _ e,← List.append_assoc] at hy;refine Ev.step (fun k => ?_) (ih (A.length + j + 1) _ _ hn1 hlt hx hy (by rw [List.length_append];simp;omega) (by rw [List.length_append];simp;omega));simp only [Zc.l0];rw [hw,if_pos i1,if_neg q1,hsub,if_pos q2,if_pos q3];simp only [Option.bind_some,List.length_cons,List.length_nil];rw [if_pos (small xs hxl),if_pos (small ys hyl),hs]
theorem isH_false (how : Int) : isH how false false = false := by unfold isH;split <;> (try split) <;> rfl
theorem JZ {l : List S43} {z : Int} : z ∈ gX l ↔ ∃ r ∈ l,z = r.f0 ∨ z = wrap64 (r.f0 + r.f2) := by
 unfold gX;rw [List.mem_flatMap];constructor
 · rintro ⟨r,hr,hz⟩;exact ⟨r,hr,by simpa using hz⟩
 · rintro ⟨r,hr,hz⟩;exact ⟨r,hr,by simpa using hz⟩
theorem Va {l : List S43} {z : Int} : z ∈ gY l ↔ ∃ r ∈ l,z = r.f1 ∨ z = wrap64 (r.f1 + r.f3) := by
 unfold gY;rw [List.mem_flatMap];constructor
 · rintro ⟨r,hr,hz⟩;exact ⟨r,hr,by simpa using hz⟩
 · rintro ⟨r,hr,hz⟩;exact ⟨r,hr,by simpa using hz⟩
theorem Y4 {r : S43} (h : okR r = true) : wrap64 (r.f0 + r.f2) = r.f0 + r.f2 ∧ wrap64 (r.f1 + r.f3) = r.f1 + r.f3 ∧ (-40000 ≤ r.f0 ∧ r.f0 ≤ 40000) ∧ (-40000 ≤ r.f0 + r.f2 ∧ r.f0 + r.f2 ≤ 40000) ∧ (-40000 ≤ r.f1 ∧ r.f1 ≤ 40000) ∧ (-40000 ≤ r.f1 + r.f3 ∧ r.f1 + r.f3 ≤ 40000) := by
 have h0 := (XU r).mp h;exact ⟨w64 (by omega) (by omega),w64 (by omega) (by omega),by omega,by omega,by omega,by omega⟩
theorem rcanonical (A B : List S43) (hA : A.length ≤ 10000) (hB : B.length ≤ 10000) (bA : badL A = false) (bB : badL B = false) (how : Int) (hh : how = 1 ∨ how = 2 ∨ how = 3) :
 Ev (fun k => Zc.f k A B how) (full (TR (isH how) A B) 40000) := by
 have hok : ∀ r ∈ A ++ B,okR r = true := by
  intro r hr
  rcases List.mem_append.mp hr with h | h
  · exact XH.mp bA r h
  · exact XH.mp bB r h
 obtain ⟨sx,mx⟩ := YU (gX (A ++ B));obtain ⟨sy,my⟩ := YU (gY (A ++ B))
 have lx : (cutsL (gX (A ++ B))).length ≤ 100000 := by have h1 := Yo (gX (A ++ B));rw [V0,List.length_append] at h1;omega
 have ly : (cutsL (gY (A ++ B))).length ≤ 100000 := by have h1 := Yo (gY (A ++ B));rw [Vz,List.length_append] at h1;omega
 have bx : ∀ x ∈ cutsL (gX (A ++ B)),-40000 ≤ x ∧ x ≤ 40000 := by
  intro x hx;obtain ⟨r,hr,hz⟩ := JZ.mp ((mx x).mp hx);obtain ⟨w1,_,b1,b2,_,_⟩ := Y4 (hok r hr)
  rcases hz with rfl | rfl
  · exact b1
  · rw [w1];exact b2
 have by_ : ∀ x ∈ cutsL (gY (A ++ B)),-40000 ≤ x ∧ x ≤ 40000 := by
  intro x hx;obtain ⟨r,hr,hz⟩ := Va.mp ((my x).mp hx);obtain ⟨_,w2,_,_,b3,b4⟩ := Y4 (hok r hr)
  rcases hz with rfl | rfl
  · exact b3
  · rw [w2];exact b4
 have eX : ∀ l,(∀ r ∈ l,r ∈ A ++ B) → EdgX (cutsL (gX (A ++ B))) l := by
  intro l hl r hr _ _;obtain ⟨w1,_⟩ := Y4 (hok r (hl r hr));exact ⟨(mx _).mpr (JZ.mpr ⟨r,hl r hr,.inl rfl⟩),(mx _).mpr (JZ.mpr ⟨r,hl r hr,.inr w1.symm⟩)⟩
 have eY : ∀ l,(∀ r ∈ l,r ∈ A ++ B) → EdgY (cutsL (gY (A ++ B))) l := by
  intro l hl r hr _ _;obtain ⟨_,w2,_⟩ := Y4 (hok r (hl r hr));exact ⟨(my _).mpr (Va.mpr ⟨r,hl r hr,.inl rfl⟩),(my _).mpr (Va.mpr ⟨r,hl r hr,.inr w2.symm⟩)⟩
 have hAm : ∀ r ∈ A,r ∈ A ++ B := fun r h => List.mem_append_left _ h
 have hBm : ∀ r ∈ B,r ∈ A ++ B := fun r h => List.mem_append_right _ h
 have hb := Je (M := 40000) (isH_false how) sx sy bx by_ (eX A hAm) (eX B hBm) (eY A hAm) (eY B hBm)
 have hrow : rowF how A B (cutsL (gX (A ++ B))) = fun y => (rowR (fun x => TR (isH how) A B x y) (cutsL (gX (A ++ B))) []).reverse := by
  funext y
  unfold rowF
  congr 2
  funext x
  rw [Y7 bA,Y7 bB];rfl
 have h1 := rcan_l1 A B (by omega) (by omega) how hh (cutsL (gX (A ++ B))) (cutsL (gY (A ++ B))) lx bx ly by_ _ 0 [] rfl (Nat.zero_le _) (by intro b hb;cases hb) (Nat.zero_le _);rw [List.drop_zero,hrow,hb] at h1;have h0 := rcan_l0 A B hA hB how (full (TR (isH how) A B) 40000) h1 _ 0 [] [] rfl (Nat.zero_le _) (by rw [List.drop_zero];rfl) (by rw [List.drop_zero];rfl) (Nat.zero_le _) (Nat.zero_le _);exact Ev.congr (fun k => rfl) h0
end Go.Proofs.Ythbajahklnpkcaa.PA

namespace Go.Proofs.Ythbajahklnpkcaa.PA
open Go.RowKit Go.Proofs.YthbajahklnpkcaaW.PrintWords Go.Proofs.YthbajahklnpkcaaW.PrintLast Go.Proofs.YthbajahklnpkcaaW.PrintMore
attribute [local go_sem] ZK ZL ZR ZU ZD ZC ZM ZN
set_option linter.unusedVariables false
set_option linter.unusedSimpArgs false
theorem eqA43 (d : Nat) (w : World) (x0 y0 : Int) (x1 y1 : Int) (x2 y2 : Int) (x3 y3 : Int) :
 (Op.equalIn (d + 2) 43 (.agg #[.int .i64 x0,.int .i64 x1,.int .i64 x2,.int .i64 x3]) (.agg #[.int .i64 y0,.int .i64 y1,.int .i64 y2,.int .i64 y3])).run Try.prog w = .ok (x0 == y0 && (x1 == y1 && (x2 == y2 && (x3 == y3)))) w := by
 refine V8 Try.underlying43 (by kernel_rfl) ?_;refine Yc (by rfl) (by go_simp;rfl) (by go_simp;rfl) (by go_simp) ?_;refine Yc (by rfl) (by go_simp;rfl) (by go_simp;rfl) (by go_simp) ?_;refine Yc (by rfl) (by go_simp;rfl) (by go_simp;rfl) (by go_simp) ?_;exact JV (by rfl) (by go_simp;rfl) (by go_simp;rfl) (by go_simp)
end Go.Proofs.Ythbajahklnpkcaa.PA

namespace Go.Proofs.Ythbajahklnpkcaa.PA
open Go.RowKit Go.Proofs.YthbajahklnpkcaaW.PrintWords Go.Proofs.YthbajahklnpkcaaW.PrintLast Go.Proofs.YthbajahklnpkcaaW.PrintMore
attribute [local go_sem] ZK ZL ZR ZU ZD ZC ZM ZN
set_option linter.unusedVariables false
set_option linter.unusedSimpArgs false
attribute [local go_sem high] eqA43
def Xh.l0 : Nat → List (S43) → List (S43) → Int → Int → Option (Bool)
 | 0,_,_,_,_ => none
 | k + 1,x0,x1,x12,x13 => if x13 < x12 then (if 0 ≤ x13 then (if x13 < (x0.length : Int) then (if x13 < (x1.length : Int) then (if (!(((Ze x0 x13).f0) == ((Ze x1 x13).f0)) || (!(((Ze x0 x13).f1) == ((Ze x1 x13).f1)) || (!(((Ze x0 x13).f2) == ((Ze x1 x13).f2)) || (!(((Ze x0 x13).f3) == ((Ze x1 x13).f3)))))) = true then (some false) else (Xh.l0 k x0 x1 x12 (wrap64 (x13 + 1)))) else (none)) else (none)) else (none)) else (some true)
def Xh.f (k : Nat) (l0 : List (S43)) (l1 : List (S43)) : Option (Bool) := if (l0.length : Int) = (l1.length : Int) then (Xh.l0 k l0 l1 (l0.length : Int) 0) else (some false)
set_option maxHeartbeats 8000000 in
set_option maxRecDepth 100000 in
theorem Xh.calls (k : Nat) (A0 : Option Addr) (c0 : Nat) (l0 : List (S43)) (A1 : Option Addr) (c1 : Nat) (l1 : List (S43)) (r : Bool) (w : World) (hr0 : Kd.C k43 w A0 l0.length l0) (hc0 : l0.length ≤ c0) (hr1 : Kd.C k43 w A1 l1.length l1) (hc1 : l1.length ≤ c1) (h : Xh.f k l0 l1 = some r) :
 Calls Try.prog 76 #[.slice A0 l0.length c0,.slice A1 l1.length c1] w fun e w' => e = .returned (.bool r) ∧ Drawn0 w w' := by
 have hu43 := Try.underlying43;have HR0 := Zb.mk hr0;have HC0 := Zb.mk hc0;clear hr0 hc0;have HR1 := Zb.mk hr1;have HC1 := Zb.mk hc1;clear hr1 hc1;have H : (if (l0.length : Int) = (l1.length : Int) then (Xh.l0 k l0 l1 (l0.length : Int) 0) else (some false)) = some r := h;clear h
 by_cases c3 : (l0.length : Int) = (l1.length : Int)
 · rw [if_pos c3] at H
   have c3b0 : ((l0.length : Int) == (l1.length : Int)) = true := beq_iff_eq.mpr c3;have c3b1 : ((l0.length : Int) != (l1.length : Int)) = false := bne_eq_false_iff_eq.mpr c3
   have c3b2 : (l0.length == l1.length) = true := by first | simpa using c3 | (simp at c3 ⊢;omega)
   clear c3;have H' := Zb.mk H;clear H
   go_enter Try.func76,Try.ntmps76
   go_wp2
   repeat (go_quiet (fail);try go_wp2)
   go_loopg [13] k (fun kq v13 w' => ∃ (x13_1 : Int),v13 = .int .i64 x13_1 ∧ Zb (Xh.l0 kq l0 l1 (l0.length : Int) x13_1 = some r) ∧ Zb (kq ≤ k) ∧ Drawn0 w w')
   case atStart => exact ⟨(0),(by first | rfl | (simp;done) | (simp [*];done)),H',⟨Nat.le_refl _⟩,by repeat (first | exact Drawn0.refl _ | apply Drawn0.step)⟩
   case round =>
    clear H'
    (try clear c1); (try clear p2); (try clear c3); (try clear c3b0); (try clear c3b1); (try clear c3b2)
    obtain ⟨x13_1,rfl,HA,HK1,⟨m1,rfl⟩⟩ := hrel
    cases gk with
    | zero => exact absurd HA.out (by simp [Xh.l0])
    | succ k1 =>
     have H := HA.out;clear HA;simp only [Xh.l0] at H
     by_cases c4 : x13_1 < (l0.length : Int)
     · rw [if_pos c4] at H
       have c4b0 : decide (x13_1 < (l0.length : Int)) = true := decide_eq_true c4;clear c4
       by_cases c5 : 0 ≤ x13_1
       · rw [if_pos c5] at H
         have c5b0 : decide (0 ≤ x13_1) = true := decide_eq_true c5;clear c5
         by_cases c6 : x13_1 < (l0.length : Int)
         · rw [if_pos c6] at H
           have c6b0 : decide (x13_1 < (l0.length : Int)) = true := decide_eq_true c6;clear c6
           by_cases c7 : x13_1 < (l1.length : Int)
           · rw [if_pos c7] at H
             have c7b0 : decide (x13_1 < (l1.length : Int)) = true := decide_eq_true c7;clear c7
             by_cases c8 : (!(((Ze l0 x13_1).f0) == ((Ze l1 x13_1).f0)) || (!(((Ze l0 x13_1).f1) == ((Ze l1 x13_1).f1)) || (!(((Ze l0 x13_1).f2) == ((Ze l1 x13_1).f2)) || (!(((Ze l0 x13_1).f3) == ((Ze l1 x13_1).f3)))))) = true
             · rw [if_pos c8] at H
               have c8b0 : (!(((Ze l0 x13_1).f0) == ((Ze l1 x13_1).f0)) || (!(((Ze l0 x13_1).f1) == ((Ze l1 x13_1).f1)) || (!(((Ze l0 x13_1).f2) == ((Ze l1 x13_1).f2)) || (!(((Ze l0 x13_1).f3) == ((Ze l1 x13_1).f3)))))) = true := c8;clear c8;obtain rfl := Option.some.inj H;have p268 : 0 ≤ (x13_1 : Int) := of_decide_eq_true (by first | (with_reducible assumption) | assumption);have q268 : x13_1 < (l0.length : Int) := of_decide_eq_true (by first | (with_reducible assumption) | assumption);obtain ⟨ad268,e268,hx268_0,hx268_1,hx268_2,hx268_3⟩ := Z4 HR0.out x13_1 p268 q268
               cases e268
               replace p268 := eq_true p268;replace q268 := eq_true q268;have p269 : 0 ≤ (x13_1 : Int) := of_decide_eq_true (by first | (with_reducible assumption) | assumption);have q269 : x13_1 < (l1.length : Int) := of_decide_eq_true (by first | (with_reducible assumption) | assumption);obtain ⟨ad269,e269,hx269_0,hx269_1,hx269_2,hx269_3⟩ := Z4 HR1.out x13_1 p269 q269
               cases e269
               replace p269 := eq_true p269;replace q269 := eq_true q269
               go_wp2
               repeat (go_quiet (fail);try go_wp2)
               go_ret;exact ⟨by first | rfl | (simp;done) | (simp [*];done),by repeat (first | exact Drawn0.refl _ | apply Drawn0.step)⟩
             · rw [if_neg c8] at H
               have c8b0 : (!(((Ze l0 x13_1).f0) == ((Ze l1 x13_1).f0)) || (!(((Ze l0 x13_1).f1) == ((Ze l1 x13_1).f1)) || (!(((Ze l0 x13_1).f2) == ((Ze l1 x13_1).f2)) || (!(((Ze l0 x13_1).f3) == ((Ze l1 x13_1).f3)))))) = false := by simpa using c8
               clear c8;have H' := Zb.mk H;clear H;have p268 : 0 ≤ (x13_1 : Int) := of_decide_eq_true (by first | (with_reducible assumption) | assumption);have q268 : x13_1 < (l0.length : Int) := of_decide_eq_true (by first | (with_reducible assumption) | assumption);obtain ⟨ad268,e268,hx268_0,hx268_1,hx268_2,hx268_3⟩ := Z4 HR0.out x13_1 p268 q268
               cases e268
               replace p268 := eq_true p268;replace q268 := eq_true q268;have p269 : 0 ≤ (x13_1 : Int) := of_decide_eq_true (by first | (with_reducible assumption) | assumption);have q269 : x13_1 < (l1.length : Int) := of_decide_eq_true (by first | (with_reducible assumption) | assumption);obtain ⟨ad269,e269,hx269_0,hx269_1,hx269_2,hx269_3⟩ := Z4 HR1.out x13_1 p269 q269
               cases e269
               replace p269 := eq_true p269;replace q269 := eq_true q269
               go_wp2
               repeat (go_quiet (fail);try go_wp2)
               go_roundg k1
               case measure => have := HK1.out;omega
               case rel => exact ⟨(wrap64 (x13_1 + 1)),(by first | rfl | (simp;done) | (simp [*];done)),H',⟨by have := HK1.out;omega⟩,by repeat (first | exact Drawn0.refl _ | apply Drawn0.step)⟩
           · rw [if_neg c7] at H
             exact absurd H (by simp)
         · rw [if_neg c6] at H
           exact absurd H (by simp)
       · rw [if_neg c5] at H
         exact absurd H (by simp)
     · rw [if_neg c4] at H
       have c4b0 : decide (x13_1 < (l0.length : Int)) = false := decide_eq_false c4;clear c4;obtain rfl := Option.some.inj H
       go_wp2
       repeat (go_quiet (fail);try go_wp2)
       go_ret;exact ⟨by first | rfl | (simp;done) | (simp [*];done),by repeat (first | exact Drawn0.refl _ | apply Drawn0.step)⟩
 · rw [if_neg c3] at H
   have c3b0 : ((l0.length : Int) == (l1.length : Int)) = false := beq_eq_false_iff_ne.mpr c3;have c3b1 : ((l0.length : Int) != (l1.length : Int)) = true := bne_iff_ne.mpr c3
   have c3b2 : (l0.length == l1.length) = false := by first | simpa using c3 | (simp at c3 ⊢;omega)
   obtain rfl := Option.some.inj H
   go_enter Try.func76,Try.ntmps76
   go_wp2
   repeat (go_quiet (fail);try go_wp2)
   go_ret;exact ⟨by first | rfl | (simp;done) | (simp [*];done),by repeat (first | exact Drawn0.refl _ | apply Drawn0.step)⟩
end Go.Proofs.Ythbajahklnpkcaa.PA

namespace Go.Proofs.Ythbajahklnpkcaa.PA
open Go.RowKit Go.Shelf Go.Proofs.YthbajahklnpkcaaW.PrintWords Go.Proofs.YthbajahklnpkcaaW.PrintLast Go.Proofs.YthbajahklnpkcaaW.PrintMore
set_option linter.unusedVariables false
set_option linter.unusedSimpArgs false
def eqR (x y : S43) : Bool := x.f0 == y.f0 && x.f1 == y.f1 && x.f2 == y.f2 && x.f3 == y.f3
def eqL : List S43 → List S43 → Bool
 | [],[] => true
 | x :: l,y :: m => eqR x y && eqL l m
 | _,_ => false
theorem eqR_iff (x y : S43) : eqR x y = true ↔ x = y := by
 obtain ⟨a,b,c,d⟩ := x;obtain ⟨a',b',c',d'⟩ := y;simp [eqR,Bool.and_eq_true];constructor
 · rintro ⟨⟨⟨h1,h2⟩,h3⟩,h4⟩;exact ⟨h1,h2,h3,h4⟩
 · rintro ⟨h1,h2,h3,h4⟩;exact ⟨⟨⟨h1,h2⟩,h3⟩,h4⟩
theorem QI : ∀ l m : List S43,eqL l m = true ↔ l = m
 | [],[] => by simp [eqL]
 | [],y :: m => by simp [eqL]
 | x :: l,[] => by simp [eqL]
 | x :: l,y :: m => by simp [eqL,Bool.and_eq_true,eqR_iff,QI l m]
theorem J7 : ∀ l m : List S43,l.length ≠ m.length → eqL l m = false := by
 intro l m h
 cases hq : eqL l m with
 | false => rfl
 | true => exact absurd (congrArg List.length ((QI l m).mp hq)) h
theorem neR (x y : S43) : (!(x.f0 == y.f0) || (!(x.f1 == y.f1) || (!(x.f2 == y.f2) || !(x.f3 == y.f3)))) = !eqR x y := by
 unfold eqR
 cases x.f0 == y.f0 <;> cases x.f1 == y.f1 <;> cases x.f2 == y.f2 <;> cases x.f3 == y.f3 <;> rfl
theorem JS (l m : List S43) (k : Nat) (hk : k < l.length) (hk2 : k < m.length) : eqL (l.drop k) (m.drop k) = (eqR (Ze l k) (Ze m k) && eqL (l.drop (k + 1)) (m.drop (k + 1))) := by
 have e1 := Xr l k hk;have e2 := Xr m k hk2;rw [List.getElem?_eq_getElem hk] at e1;rw [List.getElem?_eq_getElem hk2] at e2;rw [List.drop_eq_getElem_cons hk,List.drop_eq_getElem_cons hk2,eqL,Option.some.inj e1,Option.some.inj e2]
theorem r76_l0 (l m : List S43) (hl : l.length ≤ 9223372036854775807) (hm : l.length = m.length) : ∀ (n kk : Nat),l.length - kk = n → kk ≤ l.length → Ev (fun k => Xh.l0 k l m (l.length : Int) kk) (eqL (l.drop kk) (m.drop kk)) := by
 intro n
 induction n with
 | zero =>
  intro kk hn hk;rw [List.drop_eq_nil_of_le (by omega),List.drop_eq_nil_of_le (by omega)];refine Ev.pure (fun k => ?_);simp only [Xh.l0];rw [if_neg (by omega)];rfl
 | succ n ih =>
  intro kk hn hk
  have hlt : kk < l.length := by omega
  have hw : wrap64 ((kk : Int) + 1) = ((kk + 1 : Nat) : Int) := Xi (by omega)
  have i0 : (0 : Int) ≤ (kk : Int) := by omega
  have i1 : (kk : Int) < (l.length : Int) := by omega
  have i2 : (kk : Int) < (m.length : Int) := by omega
  rw [JS l m kk hlt (by omega)]
  cases hq : eqR (Ze l kk) (Ze m kk) with
  | false =>
   refine Ev.pure (fun k => ?_);simp only [Xh.l0];rw [if_pos i1,if_pos i0,if_pos i1,if_pos i2,neR,hq];rfl
  | true =>
   refine Ev.step (fun k => ?_) (by rw [Bool.true_and];exact ih (kk + 1) (by omega) (by omega));simp only [Xh.l0];rw [if_pos i1,if_pos i0,if_pos i1,if_pos i2,neR,hq,hw];rfl
theorem r76 (l m : List S43) (hl : l.length ≤ 9223372036854775807) : ∃ k,Xh.f k l m = some (eqL l m) := by
 refine Ev.some ?_;unfold Xh.f
 by_cases h : (l.length : Int) = (m.length : Int)
 · have h0 := r76_l0 l m hl (by omega) _ 0 rfl (Nat.zero_le _)
   rw [List.drop_zero,List.drop_zero] at h0;exact Ev.congr (fun k => by rw [if_pos h];rfl) h0
 · exact Ev.val (fun k => by rw [if_neg h,J7 l m (by omega)])
theorem equal_calls (A0 A1 : Option Addr) (c0 c1 : Nat) (l m : List S43) (w : World) (hr0 : Kd.C k43 w A0 l.length l) (hc0 : l.length ≤ c0) (hr1 : Kd.C k43 w A1 m.length m) (hc1 : m.length ≤ c1) :
 Calls Try.prog 76 #[.slice A0 l.length c0,.slice A1 m.length c1] w fun e w' => e = .returned (.bool (eqL l m)) ∧ Below w.heap.size w w' := by
 obtain ⟨k,hk⟩ := r76 l m (Kd.C_max hr0);exact (Xh.calls k A0 c0 l A1 c1 m _ w hr0 hc0 hr1 hc1 hk).mono (fun e w' h => ⟨h.1,by obtain ⟨n,rfl⟩ := h.2;exact Za (Below.refl _ _) n⟩)
def validB (l : List S43) : Bool := if 200 < l.length then false else if badL l = true then false else if madeE (outOf orB l []) = 0 then eqL (madeL (outOf orB l [])) l else false
set_option maxRecDepth 100000 in
set_option maxHeartbeats 4000000 in
theorem valid_region_calls (A : Option Addr) (c : Nat) (l : List S43) (w : World) (hr : Kd.C k43 w A l.length l) (hc : l.length ≤ c) :
 Calls Try.prog 22 #[.slice A l.length c] w fun e w' => e = .returned (.bool (validB l)) ∧ Below w.heap.size w w' := by
 have HR := Zb.mk hr;have HCc := Zb.mk hc;have HB := Zb.mk (bad75_calls A c l w hr);clear hr hc
 by_cases h2 : 200 < l.length
 · have h2b : decide ((l.length : Int) > 200) = true := decide_eq_true (by omega)
   have E := Zb.mk (show validB l = false by rw [validB,if_pos h2])
   go_enter Try.func22,Try.ntmps22
   go_wp2
   go_ret;exact ⟨by rw [E.out];rfl,Below.refl _ _⟩
 · have h2b : decide ((l.length : Int) > 200) = false := decide_eq_false (by omega)
   cases hb : badL l with
   | true =>
    rw [hb] at HB;have E := Zb.mk (show validB l = false by rw [validB,if_neg h2,if_pos hb])
    go_enter Try.func22,Try.ntmps22
    go_wp2_with (first | (go_at_call 70;refine HB.out.mono ?_;rintro e w1 ⟨rfl,hb1⟩))
    go_ret;exact ⟨by rw [E.out];rfl,hb1⟩
   | false =>
    rw [hb] at HB;have E := Zb.mk (show validB l = if madeE (outOf orB l []) = 0 then eqL (madeL (outOf orB l [])) l else false by rw [validB,if_neg h2,if_neg (by rw [hb];decide)])
    have HM := fun w1 (hb1 : Below w.heap.size w w1) => Zb.mk (Jq orB 59 enters59 is59 A none c 0 l [] w1 (Kd.Z5 HR.out hb1) (J5 _ _) (by omega) (by simp))
    have HE := fun (w1 : World) (B : Option Addr) (cB : Nat) (hb1 : Below w.heap.size w w1) (m : List S43) (hm : Kd.C k43 w1 B m.length m) (hcm : m.length ≤ cB) => Zb.mk (equal_calls B A cB c m l w1 hm hcm (Kd.Z5 HR.out hb1) HCc.out)
    generalize hee : madeE (outOf orB l []) = ee at HM E;generalize hll : madeL (outOf orB l []) = ll at HM E;clear hee hll
    cases he : (ee == 0) with
    | false =>
     have E1 := Zb.mk (show validB l = false by rw [E.out,if_neg (by simpa using he)]);have heb := he
     go_enter Try.func22,Try.ntmps22
     go_wp2_with (first | (go_at_call 70;refine HB.out.mono ?_;rintro e w1 ⟨rfl,hb1⟩;have HM1 := HM w1 hb1) | (go_at_call 73;refine HM1.out.mono ?_;rintro e w2 ⟨v2,rfl,ho2,hb2⟩;obtain ⟨A2,c2,rfl⟩ := Qc ho2))
     go_ret;exact ⟨by rw [E1.out];rfl,hb1.trans (hb2.mono hb1.size)⟩
    | true =>
     have E1 := Zb.mk (show validB l = eqL ll l by rw [E.out,if_pos (by simpa using he)]);have heb := he
     go_enter Try.func22,Try.ntmps22
     go_wp2_with (first | (go_at_call 70;refine HB.out.mono ?_;rintro e w1 ⟨rfl,hb1⟩;have HM1 := HM w1 hb1) | (go_at_call 73;refine HM1.out.mono ?_;rintro e w2 ⟨v2,rfl,ho2,hb2⟩;obtain ⟨A2,c2,rfl⟩ := Qc ho2;have hb12 := hb1.trans (hb2.mono hb1.size);have HE2 := HE w2 A2 c2 hb12 ll (V2 ho2) (Kd.Z3 (Vd ho2)).2.1) | (go_at_call 76;refine HE2.out.mono ?_;rintro e w3 ⟨rfl,hb3⟩))
     go_ret;exact ⟨by rw [E1.out];simp,hb12.trans (hb3.mono hb12.size)⟩
end Go.Proofs.Ythbajahklnpkcaa.PA

namespace Go.Proofs.Ythbajahklnpkcaa.PA
open Go.RowKit Go.Shelf Go.Proofs.YthbajahklnpkcaaW.PrintWords Go.Proofs.YthbajahklnpkcaaW.PrintLast Go.Proofs.YthbajahklnpkcaaW.PrintMore
set_option linter.unusedVariables false
set_option linter.unusedSimpArgs false
def Z7.f (l0 : List S43) : Option Bool := some (validB l0)
theorem Z7.calls (A0 : Option Addr) (c0 : Nat) (l0 : List S43) (r : Bool) (w : World) (hr0 : Kd.C k43 w A0 l0.length l0) (hc0 : l0.length ≤ c0) (h : Z7.f l0 = some r) :
 Calls Try.prog 22 #[.slice A0 l0.length c0] w fun e w' => e = .returned (.bool r) ∧ Below w.heap.size w w' := by
 cases h
 exact valid_region_calls A0 c0 l0 w hr0 hc0
def XE.f (l0 : List S43) (a1 a2 : Int) : Option Bool := some (covL l0 a1 a2)
theorem XE.calls (A0 : Option Addr) (c0 : Nat) (l0 : List S43) (a1 a2 : Int) (r : Bool) (w : World) (hr0 : Kd.C k43 w A0 l0.length l0) (hc0 : l0.length ≤ c0) (h : XE.f l0 a1 a2 = some r) :
 Calls Try.prog 77 #[.slice A0 l0.length c0,.int .i64 a1,.int .i64 a2] w fun e w' => e = .returned (.bool r) ∧ Below w.heap.size w w' := by
 cases h
 exact Q7 A0 c0 l0 a1 a2 w hr0
end Go.Proofs.Ythbajahklnpkcaa.PA

namespace Go.Proofs.Ythbajahklnpkcaa.PA
open Go.RowKit Go.Proofs.YthbajahklnpkcaaW.PrintWords Go.Proofs.YthbajahklnpkcaaW.PrintLast Go.Proofs.YthbajahklnpkcaaW.PrintMore
attribute [local go_sem] ZK ZL ZR ZU ZD ZC ZM ZN
set_option linter.unusedVariables false
set_option linter.unusedSimpArgs false
def ZF.f (a0_0 : Int) (a0_1 : Int) (a0_2 : Int) (a0_3 : Int) : Option (Bool) := if a0_0 ≥ (-10000) then (if a0_0 ≤ 10000 then (if a0_1 ≥ (-10000) then (if a0_1 ≤ 10000 then (if a0_2 ≥ 0 then (if a0_2 ≤ 20000 then (if a0_3 ≥ 0 then (some (decide (a0_3 ≤ 20000))) else (some false)) else (some false)) else (some false)) else (some false)) else (some false)) else (some false)) else (some false)
set_option maxHeartbeats 8000000 in
set_option maxRecDepth 100000 in
theorem ZF.calls (a0_0 : Int) (a0_1 : Int) (a0_2 : Int) (a0_3 : Int) (r : Bool) (w : World) (h : ZF.f a0_0 a0_1 a0_2 a0_3 = some r) :
 Calls Try.prog 81 #[.agg #[.int .i64 a0_0,.int .i64 a0_1,.int .i64 a0_2,.int .i64 a0_3]] w fun e w' => e = .returned (.bool r) ∧ Below w.heap.size w w' := by
 have hu43 := Try.underlying43;have HB := Zb.mk (Below.refl w.heap.size w);have H : (if a0_0 ≥ (-10000) then (if a0_0 ≤ 10000 then (if a0_1 ≥ (-10000) then (if a0_1 ≤ 10000 then (if a0_2 ≥ 0 then (if a0_2 ≤ 20000 then (if a0_3 ≥ 0 then (some (decide (a0_3 ≤ 20000))) else (some false)) else (some false)) else (some false)) else (some false)) else (some false)) else (some false)) else (some false)) = some r := h;clear h
 by_cases c2 : a0_0 ≥ (-10000)
 · rw [if_pos c2] at H
   have c2b0 : decide ((-10000) ≤ a0_0) = true := decide_eq_true c2;clear c2
   by_cases c3 : a0_0 ≤ 10000
   · rw [if_pos c3] at H
     have c3b0 : decide (a0_0 ≤ 10000) = true := decide_eq_true c3;clear c3
     by_cases c4 : a0_1 ≥ (-10000)
     · rw [if_pos c4] at H
       have c4b0 : decide ((-10000) ≤ a0_1) = true := decide_eq_true c4;clear c4
       by_cases c5 : a0_1 ≤ 10000
       · rw [if_pos c5] at H
         have c5b0 : decide (a0_1 ≤ 10000) = true := decide_eq_true c5;clear c5
         by_cases c6 : a0_2 ≥ 0
         · rw [if_pos c6] at H
           have c6b0 : decide (0 ≤ a0_2) = true := decide_eq_true c6;clear c6
           by_cases c7 : a0_2 ≤ 20000
           · rw [if_pos c7] at H
             have c7b0 : decide (a0_2 ≤ 20000) = true := decide_eq_true c7;clear c7
             by_cases c8 : a0_3 ≥ 0
             · rw [if_pos c8] at H
               have c8b0 : decide (0 ≤ a0_3) = true := decide_eq_true c8;clear c8;obtain rfl := Option.some.inj H
               go_enter Try.func81,Try.ntmps81
               go_wp2_with (first | ((with_reducible refine ZJ (N := 1) rfl ?_);refine ZI ?hg (N := 1) ?hd (cs := #[.int .i64 a0_0,.int .i64 a0_1,.int .i64 a0_2,.int .i64 a0_3]) (t := 43) ?hr ?_;(case hd => rfl);(case hg => rfl);(case hr => first | (go_simp;done) | (go_simp;rfl));intro gb365 hg w9 hbox hb;have n0_ := Zb.mk (Zr (by repeat (first | (with_reducible first | exact HB.out | apply Zf | apply Za | apply Zd) | exact HB.out)) hb);have n1_ := Zb.mk (hbox);have n2_ := Zb.mk ((by rw [hg];exact (Zp (by repeat (first | (with_reducible first | exact HB.out | apply Zf | apply Za | apply Zd) | exact HB.out))) : w.heap.size ≤ gb365));have n3_ := Zb.mk ((by rw [hg];exact (Zp (by repeat (first | (with_reducible first | exact HB.out | apply Zf | apply Za | apply Zd) | exact HB.out))) : w.heap.size ≤ gb365));clear HB;have HB := n0_;have BK365 := n1_;have GW365 := n2_;have GE365 := n3_;clear n0_ n1_ n2_ n3_;clear hb hbox hg;have hcz10_0 : w9.cell? ⟨gb365,0,none⟩ = some (.int .i64 a0_0) := (Zg BK365.out 0).trans rfl;have hcz10_1 : w9.cell? ⟨gb365,1,none⟩ = some (.int .i64 a0_1) := (Zg BK365.out 1).trans rfl;have hcz10_2 : w9.cell? ⟨gb365,2,none⟩ = some (.int .i64 a0_2) := (Zg BK365.out 2).trans rfl;have hcz10_3 : w9.cell? ⟨gb365,3,none⟩ = some (.int .i64 a0_3) := (Zg BK365.out 3).trans rfl;have hfz10_0 := Zh BK365.out 0;have hfz10_1 := Zh BK365.out 1;have hfz10_2 := Zh BK365.out 2;have hfz10_3 := Zh BK365.out 3))
               go_ret;exact ⟨by first | rfl | (simp [Zu,Zt] <;> rfl) | (simp [*,Zu,Zt] <;> rfl),by repeat (first | (with_reducible first | exact HB.out | apply Zf | apply Za | apply Zd | refine Zo ?_ GE365.out) | exact HB.out)⟩
             · rw [if_neg c8] at H
               have c8b0 : decide (0 ≤ a0_3) = false := decide_eq_false c8;clear c8;obtain rfl := Option.some.inj H
               go_enter Try.func81,Try.ntmps81
               go_wp2_with (first | ((with_reducible refine ZJ (N := 1) rfl ?_);refine ZI ?hg (N := 1) ?hd (cs := #[.int .i64 a0_0,.int .i64 a0_1,.int .i64 a0_2,.int .i64 a0_3]) (t := 43) ?hr ?_;(case hd => rfl);(case hg => rfl);(case hr => first | (go_simp;done) | (go_simp;rfl));intro gb365 hg w11 hbox hb;have n0_ := Zb.mk (Zr (by repeat (first | (with_reducible first | exact HB.out | apply Zf | apply Za | apply Zd) | exact HB.out)) hb);have n1_ := Zb.mk (hbox);have n2_ := Zb.mk ((by rw [hg];exact (Zp (by repeat (first | (with_reducible first | exact HB.out | apply Zf | apply Za | apply Zd) | exact HB.out))) : w.heap.size ≤ gb365));have n3_ := Zb.mk ((by rw [hg];exact (Zp (by repeat (first | (with_reducible first | exact HB.out | apply Zf | apply Za | apply Zd) | exact HB.out))) : w.heap.size ≤ gb365));clear HB;have HB := n0_;have BK365 := n1_;have GW365 := n2_;have GE365 := n3_;clear n0_ n1_ n2_ n3_;clear hb hbox hg;have hcz12_0 : w11.cell? ⟨gb365,0,none⟩ = some (.int .i64 a0_0) := (Zg BK365.out 0).trans rfl;have hcz12_1 : w11.cell? ⟨gb365,1,none⟩ = some (.int .i64 a0_1) := (Zg BK365.out 1).trans rfl;have hcz12_2 : w11.cell? ⟨gb365,2,none⟩ = some (.int .i64 a0_2) := (Zg BK365.out 2).trans rfl;have hcz12_3 : w11.cell? ⟨gb365,3,none⟩ = some (.int .i64 a0_3) := (Zg BK365.out 3).trans rfl;have hfz12_0 := Zh BK365.out 0;have hfz12_1 := Zh BK365.out 1;have hfz12_2 := Zh BK365.out 2;have hfz12_3 := Zh BK365.out 3))
               go_ret;exact ⟨by first | rfl | (simp [Zu,Zt] <;> rfl) | (simp [*,Zu,Zt] <;> rfl),by repeat (first | (with_reducible first | exact HB.out | apply Zf | apply Za | apply Zd | refine Zo ?_ GE365.out) | exact HB.out)⟩
           · rw [if_neg c7] at H
             have c7b0 : decide (a0_2 ≤ 20000) = false := decide_eq_false c7;clear c7;obtain rfl := Option.some.inj H
             go_enter Try.func81,Try.ntmps81
             go_wp2_with (first | ((with_reducible refine ZJ (N := 1) rfl ?_);refine ZI ?hg (N := 1) ?hd (cs := #[.int .i64 a0_0,.int .i64 a0_1,.int .i64 a0_2,.int .i64 a0_3]) (t := 43) ?hr ?_;(case hd => rfl);(case hg => rfl);(case hr => first | (go_simp;done) | (go_simp;rfl));intro gb365 hg w13 hbox hb;have n0_ := Zb.mk (Zr (by repeat (first | (with_reducible first | exact HB.out | apply Zf | apply Za | apply Zd) | exact HB.out)) hb);have n1_ := Zb.mk (hbox);have n2_ := Zb.mk ((by rw [hg];exact (Zp (by repeat (first | (with_reducible first | exact HB.out | apply Zf | apply Za | apply Zd) | exact HB.out))) : w.heap.size ≤ gb365));have n3_ := Zb.mk ((by rw [hg];exact (Zp (by repeat (first | (with_reducible first | exact HB.out | apply Zf | apply Za | apply Zd) | exact HB.out))) : w.heap.size ≤ gb365));clear HB;have HB := n0_;have BK365 := n1_;have GW365 := n2_;have GE365 := n3_;clear n0_ n1_ n2_ n3_;clear hb hbox hg;have hcz14_0 : w13.cell? ⟨gb365,0,none⟩ = some (.int .i64 a0_0) := (Zg BK365.out 0).trans rfl;have hcz14_1 : w13.cell? ⟨gb365,1,none⟩ = some (.int .i64 a0_1) := (Zg BK365.out 1).trans rfl;have hcz14_2 : w13.cell? ⟨gb365,2,none⟩ = some (.int .i64 a0_2) := (Zg BK365.out 2).trans rfl;have hcz14_3 : w13.cell? ⟨gb365,3,none⟩ = some (.int .i64 a0_3) := (Zg BK365.out 3).trans rfl;have hfz14_0 := Zh BK365.out 0;have hfz14_1 := Zh BK365.out 1;have hfz14_2 := Zh BK365.out 2;have hfz14_3 := Zh BK365.out 3))
             go_ret;exact ⟨by first | rfl | (simp [Zu,Zt] <;> rfl) | (simp [*,Zu,Zt] <;> rfl),by repeat (first | (with_reducible first | exact HB.out | apply Zf | apply Za | apply Zd | refine Zo ?_ GE365.out) | exact HB.out)⟩
         · rw [if_neg c6] at H
           have c6b0 : decide (0 ≤ a0_2) = false := decide_eq_false c6;clear c6;obtain rfl := Option.some.inj H
           go_enter Try.func81,Try.ntmps81
           go_wp2_with (first | ((with_reducible refine ZJ (N := 1) rfl ?_);refine ZI ?hg (N := 1) ?hd (cs := #[.int .i64 a0_0,.int .i64 a0_1,.int .i64 a0_2,.int .i64 a0_3]) (t := 43) ?hr ?_;(case hd => rfl);(case hg => rfl);(case hr => first | (go_simp;done) | (go_simp;rfl));intro gb365 hg w15 hbox hb;have n0_ := Zb.mk (Zr (by repeat (first | (with_reducible first | exact HB.out | apply Zf | apply Za | apply Zd) | exact HB.out)) hb);have n1_ := Zb.mk (hbox);have n2_ := Zb.mk ((by rw [hg];exact (Zp (by repeat (first | (with_reducible first | exact HB.out | apply Zf | apply Za | apply Zd) | exact HB.out))) : w.heap.size ≤ gb365));have n3_ := Zb.mk ((by rw [hg];exact (Zp (by repeat (first | (with_reducible first | exact HB.out | apply Zf | apply Za | apply Zd) | exact HB.out))) : w.heap.size ≤ gb365));clear HB;have HB := n0_;have BK365 := n1_;have GW365 := n2_;have GE365 := n3_;clear n0_ n1_ n2_ n3_;clear hb hbox hg;have hcz16_0 : w15.cell? ⟨gb365,0,none⟩ = some (.int .i64 a0_0) := (Zg BK365.out 0).trans rfl;have hcz16_1 : w15.cell? ⟨gb365,1,none⟩ = some (.int .i64 a0_1) := (Zg BK365.out 1).trans rfl;have hcz16_2 : w15.cell? ⟨gb365,2,none⟩ = some (.int .i64 a0_2) := (Zg BK365.out 2).trans rfl;have hcz16_3 : w15.cell? ⟨gb365,3,none⟩ = some (.int .i64 a0_3) := (Zg BK365.out 3).trans rfl;have hfz16_0 := Zh BK365.out 0;have hfz16_1 := Zh BK365.out 1;have hfz16_2 := Zh BK365.out 2;have hfz16_3 := Zh BK365.out 3))
           go_ret;exact ⟨by first | rfl | (simp [Zu,Zt] <;> rfl) | (simp [*,Zu,Zt] <;> rfl),by repeat (first | (with_reducible first | exact HB.out | apply Zf | apply Za | apply Zd | refine Zo ?_ GE365.out) | exact HB.out)⟩
       · rw [if_neg c5] at H
         have c5b0 : decide (a0_1 ≤ 10000) = false := decide_eq_false c5;clear c5;obtain rfl := Option.some.inj H
         go_enter Try.func81,Try.ntmps81
         go_wp2_with (first | ((with_reducible refine ZJ (N := 1) rfl ?_);refine ZI ?hg (N := 1) ?hd (cs := #[.int .i64 a0_0,.int .i64 a0_1,.int .i64 a0_2,.int .i64 a0_3]) (t := 43) ?hr ?_;(case hd => rfl);(case hg => rfl);(case hr => first | (go_simp;done) | (go_simp;rfl));intro gb365 hg w17 hbox hb;have n0_ := Zb.mk (Zr (by repeat (first | (with_reducible first | exact HB.out | apply Zf | apply Za | apply Zd) | exact HB.out)) hb);have n1_ := Zb.mk (hbox);have n2_ := Zb.mk ((by rw [hg];exact (Zp (by repeat (first | (with_reducible first | exact HB.out | apply Zf | apply Za | apply Zd) | exact HB.out))) : w.heap.size ≤ gb365));have n3_ := Zb.mk ((by rw [hg];exact (Zp (by repeat (first | (with_reducible first | exact HB.out | apply Zf | apply Za | apply Zd) | exact HB.out))) : w.heap.size ≤ gb365));clear HB;have HB := n0_;have BK365 := n1_;have GW365 := n2_;have GE365 := n3_;clear n0_ n1_ n2_ n3_;clear hb hbox hg;have hcz18_0 : w17.cell? ⟨gb365,0,none⟩ = some (.int .i64 a0_0) := (Zg BK365.out 0).trans rfl;have hcz18_1 : w17.cell? ⟨gb365,1,none⟩ = some (.int .i64 a0_1) := (Zg BK365.out 1).trans rfl;have hcz18_2 : w17.cell? ⟨gb365,2,none⟩ = some (.int .i64 a0_2) := (Zg BK365.out 2).trans rfl;have hcz18_3 : w17.cell? ⟨gb365,3,none⟩ = some (.int .i64 a0_3) := (Zg BK365.out 3).trans rfl;have hfz18_0 := Zh BK365.out 0;have hfz18_1 := Zh BK365.out 1;have hfz18_2 := Zh BK365.out 2;have hfz18_3 := Zh BK365.out 3))
         go_ret;exact ⟨by first | rfl | (simp [Zu,Zt] <;> rfl) | (simp [*,Zu,Zt] <;> rfl),by repeat (first | (with_reducible first | exact HB.out | apply Zf | apply Za | apply Zd | refine Zo ?_ GE365.out) | exact HB.out)⟩
     · rw [if_neg c4] at H
       have c4b0 : decide ((-10000) ≤ a0_1) = false := decide_eq_false c4;clear c4;obtain rfl := Option.some.inj H
       go_enter Try.func81,Try.ntmps81
       go_wp2_with (first | ((with_reducible refine ZJ (N := 1) rfl ?_);refine ZI ?hg (N := 1) ?hd (cs := #[.int .i64 a0_0,.int .i64 a0_1,.int .i64 a0_2,.int .i64 a0_3]) (t := 43) ?hr ?_;(case hd => rfl);(case hg => rfl);(case hr => first | (go_simp;done) | (go_simp;rfl));intro gb365 hg w19 hbox hb;have n0_ := Zb.mk (Zr (by repeat (first | (with_reducible first | exact HB.out | apply Zf | apply Za | apply Zd) | exact HB.out)) hb);have n1_ := Zb.mk (hbox);have n2_ := Zb.mk ((by rw [hg];exact (Zp (by repeat (first | (with_reducible first | exact HB.out | apply Zf | apply Za | apply Zd) | exact HB.out))) : w.heap.size ≤ gb365));have n3_ := Zb.mk ((by rw [hg];exact (Zp (by repeat (first | (with_reducible first | exact HB.out | apply Zf | apply Za | apply Zd) | exact HB.out))) : w.heap.size ≤ gb365));clear HB;have HB := n0_;have BK365 := n1_;have GW365 := n2_;have GE365 := n3_;clear n0_ n1_ n2_ n3_;clear hb hbox hg;have hcz20_0 : w19.cell? ⟨gb365,0,none⟩ = some (.int .i64 a0_0) := (Zg BK365.out 0).trans rfl;have hcz20_1 : w19.cell? ⟨gb365,1,none⟩ = some (.int .i64 a0_1) := (Zg BK365.out 1).trans rfl;have hcz20_2 : w19.cell? ⟨gb365,2,none⟩ = some (.int .i64 a0_2) := (Zg BK365.out 2).trans rfl;have hcz20_3 : w19.cell? ⟨gb365,3,none⟩ = some (.int .i64 a0_3) := (Zg BK365.out 3).trans rfl;have hfz20_0 := Zh BK365.out 0;have hfz20_1 := Zh BK365.out 1;have hfz20_2 := Zh BK365.out 2;have hfz20_3 := Zh BK365.out 3))
       go_ret;exact ⟨by first | rfl | (simp [Zu,Zt] <;> rfl) | (simp [*,Zu,Zt] <;> rfl),by repeat (first | (with_reducible first | exact HB.out | apply Zf | apply Za | apply Zd | refine Zo ?_ GE365.out) | exact HB.out)⟩
   · rw [if_neg c3] at H
     have c3b0 : decide (a0_0 ≤ 10000) = false := decide_eq_false c3;clear c3;obtain rfl := Option.some.inj H
     go_enter Try.func81,Try.ntmps81
     go_wp2_with (first | ((with_reducible refine ZJ (N := 1) rfl ?_);refine ZI ?hg (N := 1) ?hd (cs := #[.int .i64 a0_0,.int .i64 a0_1,.int .i64 a0_2,.int .i64 a0_3]) (t := 43) ?hr ?_;(case hd => rfl);(case hg => rfl);(case hr => first | (go_simp;done) | (go_simp;rfl));intro gb365 hg w21 hbox hb;have n0_ := Zb.mk (Zr (by repeat (first | (with_reducible first | exact HB.out | apply Zf | apply Za | apply Zd) | exact HB.out)) hb);have n1_ := Zb.mk (hbox);have n2_ := Zb.mk ((by rw [hg];exact (Zp (by repeat (first | (with_reducible first | exact HB.out | apply Zf | apply Za | apply Zd) | exact HB.out))) : w.heap.size ≤ gb365));have n3_ := Zb.mk ((by rw [hg];exact (Zp (by repeat (first | (with_reducible first | exact HB.out | apply Zf | apply Za | apply Zd) | exact HB.out))) : w.heap.size ≤ gb365));clear HB;have HB := n0_;have BK365 := n1_;have GW365 := n2_;have GE365 := n3_;clear n0_ n1_ n2_ n3_;clear hb hbox hg;have hcz22_0 : w21.cell? ⟨gb365,0,none⟩ = some (.int .i64 a0_0) := (Zg BK365.out 0).trans rfl;have hcz22_1 : w21.cell? ⟨gb365,1,none⟩ = some (.int .i64 a0_1) := (Zg BK365.out 1).trans rfl;have hcz22_2 : w21.cell? ⟨gb365,2,none⟩ = some (.int .i64 a0_2) := (Zg BK365.out 2).trans rfl;have hcz22_3 : w21.cell? ⟨gb365,3,none⟩ = some (.int .i64 a0_3) := (Zg BK365.out 3).trans rfl;have hfz22_0 := Zh BK365.out 0;have hfz22_1 := Zh BK365.out 1;have hfz22_2 := Zh BK365.out 2;have hfz22_3 := Zh BK365.out 3))
     go_ret;exact ⟨by first | rfl | (simp [Zu,Zt] <;> rfl) | (simp [*,Zu,Zt] <;> rfl),by repeat (first | (with_reducible first | exact HB.out | apply Zf | apply Za | apply Zd | refine Zo ?_ GE365.out) | exact HB.out)⟩
 · rw [if_neg c2] at H
   have c2b0 : decide ((-10000) ≤ a0_0) = false := decide_eq_false c2;clear c2;obtain rfl := Option.some.inj H
   go_enter Try.func81,Try.ntmps81
   go_wp2_with (first | ((with_reducible refine ZJ (N := 1) rfl ?_);refine ZI ?hg (N := 1) ?hd (cs := #[.int .i64 a0_0,.int .i64 a0_1,.int .i64 a0_2,.int .i64 a0_3]) (t := 43) ?hr ?_;(case hd => rfl);(case hg => rfl);(case hr => first | (go_simp;done) | (go_simp;rfl));intro gb365 hg w23 hbox hb;have n0_ := Zb.mk (Zr (by repeat (first | (with_reducible first | exact HB.out | apply Zf | apply Za | apply Zd) | exact HB.out)) hb);have n1_ := Zb.mk (hbox);have n2_ := Zb.mk ((by rw [hg];exact (Zp (by repeat (first | (with_reducible first | exact HB.out | apply Zf | apply Za | apply Zd) | exact HB.out))) : w.heap.size ≤ gb365));have n3_ := Zb.mk ((by rw [hg];exact (Zp (by repeat (first | (with_reducible first | exact HB.out | apply Zf | apply Za | apply Zd) | exact HB.out))) : w.heap.size ≤ gb365));clear HB;have HB := n0_;have BK365 := n1_;have GW365 := n2_;have GE365 := n3_;clear n0_ n1_ n2_ n3_;clear hb hbox hg;have hcz24_0 : w23.cell? ⟨gb365,0,none⟩ = some (.int .i64 a0_0) := (Zg BK365.out 0).trans rfl;have hcz24_1 : w23.cell? ⟨gb365,1,none⟩ = some (.int .i64 a0_1) := (Zg BK365.out 1).trans rfl;have hcz24_2 : w23.cell? ⟨gb365,2,none⟩ = some (.int .i64 a0_2) := (Zg BK365.out 2).trans rfl;have hcz24_3 : w23.cell? ⟨gb365,3,none⟩ = some (.int .i64 a0_3) := (Zg BK365.out 3).trans rfl;have hfz24_0 := Zh BK365.out 0;have hfz24_1 := Zh BK365.out 1;have hfz24_2 := Zh BK365.out 2;have hfz24_3 := Zh BK365.out 3))
   go_ret;exact ⟨by first | rfl | (simp [Zu,Zt] <;> rfl) | (simp [*,Zu,Zt] <;> rfl),by repeat (first | (with_reducible first | exact HB.out | apply Zf | apply Za | apply Zd | refine Zo ?_ GE365.out) | exact HB.out)⟩
end Go.Proofs.Ythbajahklnpkcaa.PA

namespace Go.Proofs.Ythbajahklnpkcaa.PA
open Go.RowKit Go.Proofs.YthbajahklnpkcaaW.PrintWords Go.Proofs.YthbajahklnpkcaaW.PrintLast Go.Proofs.YthbajahklnpkcaaW.PrintMore
attribute [local go_sem] ZK ZL ZR ZU ZD ZC ZM ZN
set_option linter.unusedVariables false
set_option linter.unusedSimpArgs false
def Z1.l0 : Nat → List (S43) → Int → Option (Int)
 | 0,_,_ => none
 | k + 1,x0,x3 => if x3 < (x0.length : Int) then (if 0 ≤ x3 then ((ZF.f ((Ze x0 x3).f0) ((Ze x0 x3).f1) ((Ze x0 x3).f2) ((Ze x0 x3).f3)).bind fun t367 => (if t367 = true then (Z1.l0 k x0 (wrap64 (x3 + 1))) else (some 1))) else (none)) else (some 0)
def Z1.f (k : Nat) (l0 : List (S43)) : Option (Int) := Z1.l0 k l0 0
set_option maxHeartbeats 8000000 in
set_option maxRecDepth 100000 in
theorem Z1.calls (k : Nat) (A0 : Option Addr) (c0 : Nat) (l0 : List (S43)) (r : Int) (w : World) (hr0 : Kd.C k43 w A0 l0.length l0) (hc0 : l0.length ≤ c0) (h : Z1.f k l0 = some r) :
 Calls Try.prog 74 #[.slice A0 l0.length c0] w fun e w' => e = .returned (.int .i64 r) ∧ Below w.heap.size w w' := by
 have hu43 := Try.underlying43;have HR0 := Zb.mk hr0;have HC0 := Zb.mk hc0;clear hr0 hc0;have HB := Zb.mk (Below.refl w.heap.size w);have H : (Z1.l0 k l0 0) = some r := h;clear h;have H' := Zb.mk H;clear H
 go_enter Try.func74,Try.ntmps74
 go_wp2
 go_loopg [3] k (fun kq v3 w' => ∃ (x3_1 : Int),v3 = .int .i64 x3_1 ∧ Zb (Z1.l0 kq l0 x3_1 = some r) ∧ Zb (kq ≤ k) ∧ Zb (Below w.heap.size w w'))
 case atStart => exact ⟨(0),(by first | rfl | (simp;done) | (simp [*];done)),H',⟨Nat.le_refl _⟩,⟨by repeat (first | (with_reducible first | exact HB.out | apply Zf | apply Za | apply Zd) | exact HB.out)⟩⟩
 case round =>
  clear H';obtain ⟨x3_1,rfl,HA,HK1,HB⟩ := hrel
  cases gk with
  | zero => exact absurd HA.out (by simp [Z1.l0])
  | succ k1 =>
   have H := HA.out;clear HA;simp only [Z1.l0] at H
   by_cases c2 : x3_1 < (l0.length : Int)
   · rw [if_pos c2] at H
     have c2b0 : decide (x3_1 < (l0.length : Int)) = true := decide_eq_true c2;clear c2
     by_cases c3 : 0 ≤ x3_1
     · rw [if_pos c3] at H
       have c3b0 : decide (0 ≤ x3_1) = true := decide_eq_true c3;clear c3;replace H := Option.bind_eq_some_iff.mp H;obtain ⟨t367,A40,H⟩ := H;replace H : (if t367 = true then (Z1.l0 k1 l0 (wrap64 (x3_1 + 1))) else (some 1)) = some r := H;have A4 := Zb.mk A40;clear A40
       by_cases c5 : t367 = true
       · subst c5
         have H1 : (Z1.l0 k1 l0 (wrap64 (x3_1 + 1))) = some r := by rw [if_pos rfl] at H;exact H
         clear H;have H := H1;clear H1;have H' := Zb.mk H;clear H;have p366 : 0 ≤ (x3_1 : Int) := of_decide_eq_true (by first | (with_reducible assumption) | assumption);have q366 : x3_1 < (l0.length : Int) := of_decide_eq_true (by first | (with_reducible assumption) | assumption);obtain ⟨ad366,e366,hx366_0,hx366_1,hx366_2,hx366_3⟩ := Z4 HR0.out x3_1 p366 q366
         cases e366
         replace hx366_0 := (HB.out.cell (World.block_lt_of_cell? w _ hx366_0)).trans hx366_0;replace hx366_1 := (HB.out.cell (World.block_lt_of_cell? w _ hx366_1)).trans hx366_1;replace hx366_2 := (HB.out.cell (World.block_lt_of_cell? w _ hx366_2)).trans hx366_2;replace hx366_3 := (HB.out.cell (World.block_lt_of_cell? w _ hx366_3)).trans hx366_3;replace p366 := eq_true p366;replace q366 := eq_true q366
         go_wp2_with (first | ((with_reducible refine Zw (f := 81) rfl ?_);refine ZP (some 14) rfl rfl Try.func81 (by kernel_rfl) rfl #[.agg #[.int .i64 ((Ze l0 x3_1).f0),.int .i64 ((Ze l0 x3_1).f1),.int .i64 ((Ze l0 x3_1).f2),.int .i64 ((Ze l0 x3_1).f3)]] rfl (by (try simp only [List.map_toArray,List.map_cons,List.map_nil]);first | done | rfl | (simp only [List.length_drop,List.length_take];rfl)) ?_;(with_reducible refine (ZF.calls ((Ze l0 x3_1).f0) ((Ze l0 x3_1).f1) ((Ze l0 x3_1).f2) ((Ze l0 x3_1).f3) true _ A4.out).mono ?_);rintro e w6 ⟨rfl,hb⟩;refine ⟨_,rfl,?_⟩;have n0_ := Zb.mk (Zr (by repeat (first | (with_reducible first | exact HB.out | apply Zf | apply Za | apply Zd) | exact HB.out)) hb);clear HB;have HB := n0_;clear n0_;(try clear hb);(try clear hb2);(try clear hk);(try clear hi)))
         go_roundg k1
         case measure => have := HK1.out;omega
         case rel => exact ⟨(wrap64 (x3_1 + 1)),(by first | rfl | (simp;done) | (simp [*];done)),H',⟨by have := HK1.out;omega⟩,⟨by repeat (first | (with_reducible first | exact HB.out | apply Zf | apply Za | apply Zd) | exact HB.out)⟩⟩
       · replace c5 := Bool.eq_false_iff.mpr c5
         subst c5
         have H1 : (some 1) = some r := by rw [if_neg (show ¬ (false = true) by decide)] at H;exact H
         clear H;have H := H1;clear H1;obtain rfl := Option.some.inj H;have p366 : 0 ≤ (x3_1 : Int) := of_decide_eq_true (by first | (with_reducible assumption) | assumption);have q366 : x3_1 < (l0.length : Int) := of_decide_eq_true (by first | (with_reducible assumption) | assumption);obtain ⟨ad366,e366,hx366_0,hx366_1,hx366_2,hx366_3⟩ := Z4 HR0.out x3_1 p366 q366
         cases e366
         replace hx366_0 := (HB.out.cell (World.block_lt_of_cell? w _ hx366_0)).trans hx366_0;replace hx366_1 := (HB.out.cell (World.block_lt_of_cell? w _ hx366_1)).trans hx366_1;replace hx366_2 := (HB.out.cell (World.block_lt_of_cell? w _ hx366_2)).trans hx366_2;replace hx366_3 := (HB.out.cell (World.block_lt_of_cell? w _ hx366_3)).trans hx366_3;replace p366 := eq_true p366;replace q366 := eq_true q366
         go_wp2_with (first | ((with_reducible refine Zw (f := 81) rfl ?_);refine ZP (some 14) rfl rfl Try.func81 (by kernel_rfl) rfl #[.agg #[.int .i64 ((Ze l0 x3_1).f0),.int .i64 ((Ze l0 x3_1).f1),.int .i64 ((Ze l0 x3_1).f2),.int .i64 ((Ze l0 x3_1).f3)]] rfl (by (try simp only [List.map_toArray,List.map_cons,List.map_nil]);first | done | rfl | (simp only [List.length_drop,List.length_take];rfl)) ?_;(with_reducible refine (ZF.calls ((Ze l0 x3_1).f0) ((Ze l0 x3_1).f1) ((Ze l0 x3_1).f2) ((Ze l0 x3_1).f3) false _ A4.out).mono ?_);rintro e w7 ⟨rfl,hb⟩;refine ⟨_,rfl,?_⟩;have n0_ := Zb.mk (Zr (by repeat (first | (with_reducible first | exact HB.out | apply Zf | apply Za | apply Zd) | exact HB.out)) hb);clear HB;have HB := n0_;clear n0_;(try clear hb);(try clear hb2);(try clear hk);(try clear hi)))
         go_ret;exact ⟨by first | rfl | (simp [Zu,Zt] <;> rfl) | (simp [*,Zu,Zt] <;> rfl),by repeat (first | (with_reducible first | exact HB.out | apply Zf | apply Za | apply Zd) | exact HB.out)⟩
     · rw [if_neg c3] at H
       exact absurd H (by simp)
   · rw [if_neg c2] at H
     have c2b0 : decide (x3_1 < (l0.length : Int)) = false := decide_eq_false c2;clear c2;obtain rfl := Option.some.inj H
     go_wp2
     go_ret;exact ⟨by first | rfl | (simp [Zu,Zt] <;> rfl) | (simp [*,Zu,Zt] <;> rfl),by repeat (first | (with_reducible first | exact HB.out | apply Zf | apply Za | apply Zd) | exact HB.out)⟩
end Go.Proofs.Ythbajahklnpkcaa.PA

namespace Go.Proofs.Ythbajahklnpkcaa.PA
open Go.RowKit Go.Proofs.YthbajahklnpkcaaW.PrintWords Go.Proofs.YthbajahklnpkcaaW.PrintLast Go.Proofs.YthbajahklnpkcaaW.PrintMore
attribute [local go_sem] ZK ZL ZR ZU ZD ZC ZM ZN
set_option linter.unusedVariables false
set_option linter.unusedSimpArgs false
attribute [local go_sem high] eqA43
def Z6.l0 : Nat → List (S43) → List (S43) → Int → Option (Bool)
 | 0,_,_,_ => none
 | k + 1,x0,x1,x5 => if x5 < (x0.length : Int) then (if 0 ≤ x5 then (if x5 < (x1.length : Int) then (if (!(((Ze x0 x5).f0) == ((Ze x1 x5).f0)) || (!(((Ze x0 x5).f1) == ((Ze x1 x5).f1)) || (!(((Ze x0 x5).f2) == ((Ze x1 x5).f2)) || (!(((Ze x0 x5).f3) == ((Ze x1 x5).f3)))))) = true then (some false) else (Z6.l0 k x0 x1 (wrap64 (x5 + 1)))) else (none)) else (none)) else (some true)
def Z6.f (k : Nat) (l0 : List (S43)) (l1 : List (S43)) : Option (Bool) := if (l0.length : Int) = (l1.length : Int) then (Z6.l0 k l0 l1 0) else (some false)
set_option maxHeartbeats 8000000 in
set_option maxRecDepth 100000 in
theorem Z6.calls (k : Nat) (A0 : Option Addr) (c0 : Nat) (l0 : List (S43)) (A1 : Option Addr) (c1 : Nat) (l1 : List (S43)) (r : Bool) (w : World) (hr0 : Kd.C k43 w A0 l0.length l0) (hc0 : l0.length ≤ c0) (hr1 : Kd.C k43 w A1 l1.length l1) (hc1 : l1.length ≤ c1) (h : Z6.f k l0 l1 = some r) :
 Calls Try.prog 14 #[.slice A0 l0.length c0,.slice A1 l1.length c1] w fun e w' => e = .returned (.bool r) ∧ Drawn0 w w' := by
 have hu43 := Try.underlying43;have HR0 := Zb.mk hr0;have HC0 := Zb.mk hc0;clear hr0 hc0;have HR1 := Zb.mk hr1;have HC1 := Zb.mk hc1;clear hr1 hc1;have H : (if (l0.length : Int) = (l1.length : Int) then (Z6.l0 k l0 l1 0) else (some false)) = some r := h;clear h
 by_cases c3 : (l0.length : Int) = (l1.length : Int)
 · rw [if_pos c3] at H
   have c3b0 : ((l0.length : Int) == (l1.length : Int)) = true := beq_iff_eq.mpr c3;have c3b1 : ((l0.length : Int) != (l1.length : Int)) = false := bne_eq_false_iff_eq.mpr c3
   have c3b2 : (l0.length == l1.length) = true := by first | simpa using c3 | (simp at c3 ⊢;omega)
   clear c3;have H' := Zb.mk H;clear H
   go_enter Try.func14,Try.ntmps14
   go_wp2
   repeat (go_quiet (fail);try go_wp2)
   go_loopg [5] k (fun kq v5 w' => ∃ (x5_1 : Int),v5 = .int .i64 x5_1 ∧ Zb (Z6.l0 kq l0 l1 x5_1 = some r) ∧ Zb (kq ≤ k) ∧ Drawn0 w w')
   case atStart => exact ⟨(0),(by first | rfl | (simp;done) | (simp [*];done)),H',⟨Nat.le_refl _⟩,by repeat (first | exact Drawn0.refl _ | apply Drawn0.step)⟩
   case round =>
    clear H'
    (try clear c1); (try clear p2); (try clear c3); (try clear c3b0); (try clear c3b1); (try clear c3b2)
    obtain ⟨x5_1,rfl,HA,HK1,⟨m1,rfl⟩⟩ := hrel
    cases gk with
    | zero => exact absurd HA.out (by simp [Z6.l0])
    | succ k1 =>
     have H := HA.out;clear HA;simp only [Z6.l0] at H
     by_cases c4 : x5_1 < (l0.length : Int)
     · rw [if_pos c4] at H
       have c4b0 : decide (x5_1 < (l0.length : Int)) = true := decide_eq_true c4;clear c4
       by_cases c5 : 0 ≤ x5_1
       · rw [if_pos c5] at H
         have c5b0 : decide (0 ≤ x5_1) = true := decide_eq_true c5;clear c5
         by_cases c6 : x5_1 < (l1.length : Int)
         · rw [if_pos c6] at H
           have c6b0 : decide (x5_1 < (l1.length : Int)) = true := decide_eq_true c6;clear c6
           by_cases c7 : (!(((Ze l0 x5_1).f0) == ((Ze l1 x5_1).f0)) || (!(((Ze l0 x5_1).f1) == ((Ze l1 x5_1).f1)) || (!(((Ze l0 x5_1).f2) == ((Ze l1 x5_1).f2)) || (!(((Ze l0 x5_1).f3) == ((Ze l1 x5_1).f3)))))) = true
           · rw [if_pos c7] at H
             have c7b0 : (!(((Ze l0 x5_1).f0) == ((Ze l1 x5_1).f0)) || (!(((Ze l0 x5_1).f1) == ((Ze l1 x5_1).f1)) || (!(((Ze l0 x5_1).f2) == ((Ze l1 x5_1).f2)) || (!(((Ze l0 x5_1).f3) == ((Ze l1 x5_1).f3)))))) = true := c7;clear c7;obtain rfl := Option.some.inj H;have p270 : 0 ≤ (x5_1 : Int) := of_decide_eq_true (by first | (with_reducible assumption) | assumption);have q270 : x5_1 < (l0.length : Int) := of_decide_eq_true (by first | (with_reducible assumption) | assumption);obtain ⟨ad270,e270,hx270_0,hx270_1,hx270_2,hx270_3⟩ := Z4 HR0.out x5_1 p270 q270
             cases e270
             replace p270 := eq_true p270;replace q270 := eq_true q270;have p271 : 0 ≤ (x5_1 : Int) := of_decide_eq_true (by first | (with_reducible assumption) | assumption);have q271 : x5_1 < (l1.length : Int) := of_decide_eq_true (by first | (with_reducible assumption) | assumption);obtain ⟨ad271,e271,hx271_0,hx271_1,hx271_2,hx271_3⟩ := Z4 HR1.out x5_1 p271 q271
             cases e271
             replace p271 := eq_true p271;replace q271 := eq_true q271
             go_wp2
             repeat (go_quiet (fail);try go_wp2)
             go_ret;exact ⟨by first | rfl | (simp;done) | (simp [*];done),by repeat (first | exact Drawn0.refl _ | apply Drawn0.step)⟩
           · rw [if_neg c7] at H
             have c7b0 : (!(((Ze l0 x5_1).f0) == ((Ze l1 x5_1).f0)) || (!(((Ze l0 x5_1).f1) == ((Ze l1 x5_1).f1)) || (!(((Ze l0 x5_1).f2) == ((Ze l1 x5_1).f2)) || (!(((Ze l0 x5_1).f3) == ((Ze l1 x5_1).f3)))))) = false := by simpa using c7
             clear c7;have H' := Zb.mk H;clear H;have p270 : 0 ≤ (x5_1 : Int) := of_decide_eq_true (by first | (with_reducible assumption) | assumption);have q270 : x5_1 < (l0.length : Int) := of_decide_eq_true (by first | (with_reducible assumption) | assumption);obtain ⟨ad270,e270,hx270_0,hx270_1,hx270_2,hx270_3⟩ := Z4 HR0.out x5_1 p270 q270
             cases e270
             replace p270 := eq_true p270;replace q270 := eq_true q270;have p271 : 0 ≤ (x5_1 : Int) := of_decide_eq_true (by first | (with_reducible assumption) | assumption);have q271 : x5_1 < (l1.length : Int) := of_decide_eq_true (by first | (with_reducible assumption) | assumption);obtain ⟨ad271,e271,hx271_0,hx271_1,hx271_2,hx271_3⟩ := Z4 HR1.out x5_1 p271 q271
             cases e271
             replace p271 := eq_true p271;replace q271 := eq_true q271
             go_wp2
             repeat (go_quiet (fail);try go_wp2)
             go_roundg k1
             case measure => have := HK1.out;omega
             case rel => exact ⟨(wrap64 (x5_1 + 1)),(by first | rfl | (simp;done) | (simp [*];done)),H',⟨by have := HK1.out;omega⟩,by repeat (first | exact Drawn0.refl _ | apply Drawn0.step)⟩
         · rw [if_neg c6] at H
           exact absurd H (by simp)
       · rw [if_neg c5] at H
         exact absurd H (by simp)
     · rw [if_neg c4] at H
       have c4b0 : decide (x5_1 < (l0.length : Int)) = false := decide_eq_false c4;clear c4;obtain rfl := Option.some.inj H
       go_wp2
       repeat (go_quiet (fail);try go_wp2)
       go_ret;exact ⟨by first | rfl | (simp;done) | (simp [*];done),by repeat (first | exact Drawn0.refl _ | apply Drawn0.step)⟩
 · rw [if_neg c3] at H
   have c3b0 : ((l0.length : Int) == (l1.length : Int)) = false := beq_eq_false_iff_ne.mpr c3;have c3b1 : ((l0.length : Int) != (l1.length : Int)) = true := bne_iff_ne.mpr c3
   have c3b2 : (l0.length == l1.length) = false := by first | simpa using c3 | (simp at c3 ⊢;omega)
   obtain rfl := Option.some.inj H
   go_enter Try.func14,Try.ntmps14
   go_wp2
   repeat (go_quiet (fail);try go_wp2)
   go_ret;exact ⟨by first | rfl | (simp;done) | (simp [*];done),by repeat (first | exact Drawn0.refl _ | apply Drawn0.step)⟩
end Go.Proofs.Ythbajahklnpkcaa.PA

namespace Go.Proofs.Ythbajahklnpkcaa.PA
open Go.RowKit Go.Proofs.YthbajahklnpkcaaW.PrintWords Go.Proofs.YthbajahklnpkcaaW.PrintLast Go.Proofs.YthbajahklnpkcaaW.PrintMore
set_option linter.unusedVariables false
set_option linter.unusedSimpArgs false
theorem Q9 (r : S43) : ZF.f r.f0 r.f1 r.f2 r.f3 = some (okR r) := by
 unfold ZF.f okR okP okW
 by_cases h1 : r.f0 ≥ -10000
 · by_cases h2 : r.f0 ≤ 10000
   · by_cases h3 : r.f1 ≥ -10000
     · by_cases h4 : r.f1 ≤ 10000
       · by_cases h5 : r.f2 ≥ 0
         · by_cases h6 : r.f2 ≤ 20000
           · by_cases h7 : r.f3 ≥ 0
             · rw [if_pos h1,if_pos h2,if_pos h3,if_pos h4,if_pos h5,if_pos h6,if_pos h7]
               simp [h1,h2,h3,h4,h5,h6,h7]
             · rw [if_pos h1,if_pos h2,if_pos h3,if_pos h4,if_pos h5,if_pos h6,if_neg h7]
               simp;omega
           · rw [if_pos h1,if_pos h2,if_pos h3,if_pos h4,if_pos h5,if_neg h6]
             simp;omega
         · rw [if_pos h1,if_pos h2,if_pos h3,if_pos h4,if_neg h5]
           simp;omega
       · rw [if_pos h1,if_pos h2,if_pos h3,if_neg h4]
         simp;omega
     · rw [if_pos h1,if_pos h2,if_neg h3]
       simp;omega
   · rw [if_pos h1,if_neg h2]
     simp;omega
 · rw [if_neg h1]
   simp;omega
theorem rrects_l0 (l : List S43) (hl : l.length ≤ 9223372036854775807) : ∀ (n kk : Nat),l.length - kk = n → kk ≤ l.length → Ev (fun k => Z1.l0 k l kk) (if badL (l.drop kk) = true then 1 else 0) := by
 intro n
 induction n with
 | zero =>
  intro kk hn hk;rw [List.drop_eq_nil_of_le (by omega)];refine Ev.pure (fun k => ?_);simp only [Z1.l0];rw [if_neg (by omega)];rfl
 | succ n ih =>
  intro kk hn hk
  have hlt : kk < l.length := by omega
  have hx := Xr l kk hlt;have hw : wrap64 ((kk : Int) + 1) = ((kk + 1 : Nat) : Int) := Xi (by omega)
  have i0 : (0 : Int) ≤ (kk : Int) := by omega
  have i1 : (kk : Int) < (l.length : Int) := by omega
  have hd : badL (l.drop kk) = (!okR (Ze l kk) || badL (l.drop (kk + 1))) := Jj _ l kk _ hx;rw [hd];have h := ih (kk + 1) (by omega) (by omega)
  cases ho : okR (Ze l (kk : Int)) with
  | false =>
   refine Ev.pure (fun k => ?_);simp only [Z1.l0];rw [if_pos i1,if_pos i0,Q9,ho];rfl
  | true =>
   refine Ev.step (fun k => ?_) h;simp only [Z1.l0];rw [if_pos i1,if_pos i0,Q9,ho,hw];rfl
theorem rrects (l : List S43) (hl : l.length ≤ 9223372036854775807) : Ev (fun k => Z1.f k l) (if badL l = true then 1 else 0) := by
 have h := rrects_l0 l hl _ 0 rfl (Nat.zero_le _);rw [List.drop_zero] at h;exact Ev.congr (fun k => rfl) h
theorem rRects_l0 (l m : List S43) (hl : l.length ≤ 9223372036854775807) (hm : l.length = m.length) : ∀ (n kk : Nat),l.length - kk = n → kk ≤ l.length → Ev (fun k => Z6.l0 k l m kk) (eqL (l.drop kk) (m.drop kk)) := by
 intro n
 induction n with
 | zero =>
  intro kk hn hk;rw [List.drop_eq_nil_of_le (by omega),List.drop_eq_nil_of_le (by omega)];refine Ev.pure (fun k => ?_);simp only [Z6.l0];rw [if_neg (by omega)];rfl
 | succ n ih =>
  intro kk hn hk
  have hlt : kk < l.length := by omega
  have hw : wrap64 ((kk : Int) + 1) = ((kk + 1 : Nat) : Int) := Xi (by omega)
  have i0 : (0 : Int) ≤ (kk : Int) := by omega
  have i1 : (kk : Int) < (l.length : Int) := by omega
  have i2 : (kk : Int) < (m.length : Int) := by omega
  rw [JS l m kk hlt (by omega)]
  cases hq : eqR (Ze l kk) (Ze m kk) with
  | false =>
   refine Ev.pure (fun k => ?_);simp only [Z6.l0];rw [if_pos i1,if_pos i0,if_pos i2,neR,hq];rfl
  | true =>
   refine Ev.step (fun k => ?_) (by rw [Bool.true_and];exact ih (kk + 1) (by omega) (by omega));simp only [Z6.l0];rw [if_pos i1,if_pos i0,if_pos i2,neR,hq,hw];rfl
theorem rRects (l m : List S43) (hl : l.length ≤ 9223372036854775807) : Ev (fun k => Z6.f k l m) (eqL l m) := by
 unfold Z6.f
 by_cases h : (l.length : Int) = (m.length : Int)
 · have h0 := rRects_l0 l m hl (by omega) _ 0 rfl (Nat.zero_le _)
   rw [List.drop_zero,List.drop_zero] at h0;exact Ev.congr (fun k => by rw [if_pos h];rfl) h0
 · exact Ev.val (fun k => by rw [if_neg h,J7 l m (by omega)])
theorem Qe (l : List S43) : validB l = true ↔ validRegionB l := by
 unfold validB validRegionB
 by_cases h1 : 200 < l.length
 · rw [if_pos h1]
   exact ⟨fun h => (by cases h),fun h => absurd h.1 (by omega)⟩
 · rw [if_neg h1]
   cases h2 : badL l with
   | true => simp
   | false =>
    have ho : outOf orB l [] = full (TR orB l []) 40000 := YT rfl h2 rfl;rw [if_neg (by decide),ho];generalize full (TR orB l []) 40000 = m;constructor
    · intro h
      by_cases he : madeE m = 0
      · rw [if_pos he] at h
        have e := (QI _ _).mp h;refine ⟨by omega,rfl,?_⟩;unfold madeL at e;unfold madeE at he;split at he
        · cases he
        · split at he
          · cases he
          · rename_i k1 k2
            rw [if_neg k1,if_neg k2] at e;exact e
      · rw [if_neg he] at h
        cases h
    · rintro ⟨_,_,rfl⟩
      have e1 : madeE m = 0 := by unfold madeE;rw [if_neg (by rw [h2];decide),if_neg h1]
      have e2 : madeL m = m := by unfold madeL;rw [if_neg (by rw [h2];decide),if_neg h1]
      rw [if_pos e1,e2];exact (QI _ _).mpr rfl
end Go.Proofs.Ythbajahklnpkcaa.PA

namespace Go.Proofs.Ythbajahklnpkcaa.PA
open Go.RowKit Go.Proofs.YthbajahklnpkcaaW.PrintWords Go.Proofs.YthbajahklnpkcaaW.PrintLast Go.Proofs.YthbajahklnpkcaaW.PrintMore
attribute [local go_sem] ZK ZL ZR ZU ZD ZC ZM ZN
set_option linter.unusedVariables false
set_option linter.unusedSimpArgs false
end Go.Proofs.Ythbajahklnpkcaa.PA

namespace Go.Proofs.Ythbajahklnpkcaa.PA
open Go.RowKit Go.Proofs.YthbajahklnpkcaaW.PrintWords Go.Proofs.YthbajahklnpkcaaW.PrintLast Go.Proofs.YthbajahklnpkcaaW.PrintMore
attribute [local go_sem] ZK ZL ZR ZU ZD ZC ZM ZN
set_option linter.unusedVariables false
set_option linter.unusedSimpArgs false
def Xx.f (a0_0 : Int) (a0_1 : Int) (a0_2 : Int) (a0_3 : Int) (a1 : Int) : Option (Int) := if a1 = 0 then (some (wrap64 ((wrap64 (a0_0 * a0_1)) * a0_2))) else (some (wrap64 ((wrap64 ((wrap64 ((wrap64 ((wrap64 (Int.tdiv (wrap64 ((wrap64 (a0_0 + 4)) - 1)) 4)) * (wrap64 (Int.tdiv (wrap64 ((wrap64 (a0_1 + 4)) - 1)) 4)))) * 4)) * 4)) * a0_2)))
set_option maxHeartbeats 8000000 in
set_option maxRecDepth 100000 in
theorem Xx.calls (a0_0 : Int) (a0_1 : Int) (a0_2 : Int) (a0_3 : Int) (a1 : Int) (r : Int) (w : World) (h : Xx.f a0_0 a0_1 a0_2 a0_3 a1 = some r) :
 Calls Try.prog 132 #[.agg #[.int .i64 a0_0,.int .i64 a0_1,.int .i64 a0_2,.int .i64 a0_3],.int .i64 a1] w fun e w' => e = .returned (.int .i64 r) ∧ Below w.heap.size w w' := by
 have hu154 := Try.underlying154;have HB := Zb.mk (Below.refl w.heap.size w);have H : (if a1 = 0 then (some (wrap64 ((wrap64 (a0_0 * a0_1)) * a0_2))) else (some (wrap64 ((wrap64 ((wrap64 ((wrap64 ((wrap64 (Int.tdiv (wrap64 ((wrap64 (a0_0 + 4)) - 1)) 4)) * (wrap64 (Int.tdiv (wrap64 ((wrap64 (a0_1 + 4)) - 1)) 4)))) * 4)) * 4)) * a0_2)))) = some r := h;clear h
 by_cases c3 : a1 = 0
 · rw [if_pos c3] at H
   have c3b0 : (a1 == 0) = true := beq_iff_eq.mpr c3;have c3b1 : (a1 != 0) = false := bne_eq_false_iff_eq.mpr c3;clear c3;obtain rfl := Option.some.inj H
   go_enter Try.func132,Try.ntmps132
   go_wp2_with (first | ((with_reducible refine ZJ (N := 2) rfl ?_);refine ZI ?hg (N := 2) ?hd (cs := #[.int .i64 a0_0,.int .i64 a0_1,.int .i64 a0_2,.int .i64 a0_3]) (t := 154) ?hr ?_;(case hd => rfl);(case hg => rfl);(case hr => first | (go_simp;done) | (go_simp;rfl));intro gb240 hg w4 hbox hb;have n0_ := Zb.mk (Zr (by repeat (first | (with_reducible first | exact HB.out | apply Zf | apply Za | apply Zd) | exact HB.out)) hb);have n1_ := Zb.mk (hbox);have n2_ := Zb.mk ((by rw [hg];exact (Zp (by repeat (first | (with_reducible first | exact HB.out | apply Zf | apply Za | apply Zd) | exact HB.out))) : w.heap.size ≤ gb240));have n3_ := Zb.mk ((by rw [hg];exact (Zp (by repeat (first | (with_reducible first | exact HB.out | apply Zf | apply Za | apply Zd) | exact HB.out))) : w.heap.size ≤ gb240));clear HB;have HB := n0_;have BK240 := n1_;have GW240 := n2_;have GE240 := n3_;clear n0_ n1_ n2_ n3_;clear hb hbox hg;have hcz5_0 : w4.cell? ⟨gb240,0,none⟩ = some (.int .i64 a0_0) := (Zg BK240.out 0).trans rfl;have hcz5_1 : w4.cell? ⟨gb240,1,none⟩ = some (.int .i64 a0_1) := (Zg BK240.out 1).trans rfl;have hcz5_2 : w4.cell? ⟨gb240,2,none⟩ = some (.int .i64 a0_2) := (Zg BK240.out 2).trans rfl;have hcz5_3 : w4.cell? ⟨gb240,3,none⟩ = some (.int .i64 a0_3) := (Zg BK240.out 3).trans rfl;have hfz5_0 := Zh BK240.out 0;have hfz5_1 := Zh BK240.out 1;have hfz5_2 := Zh BK240.out 2;have hfz5_3 := Zh BK240.out 3))
   go_ret;exact ⟨by first | rfl | (simp [Zu,Zt] <;> rfl) | (simp [*,Zu,Zt] <;> rfl),by repeat (first | (with_reducible first | exact HB.out | apply Zf | apply Za | apply Zd | refine Zo ?_ GE240.out) | exact HB.out)⟩
 · rw [if_neg c3] at H
   have c3b0 : (a1 == 0) = false := beq_eq_false_iff_ne.mpr c3;have c3b1 : (a1 != 0) = true := bne_iff_ne.mpr c3;obtain rfl := Option.some.inj H
   go_enter Try.func132,Try.ntmps132
   go_wp2_with (first | ((with_reducible refine ZJ (N := 2) rfl ?_);refine ZI ?hg (N := 2) ?hd (cs := #[.int .i64 a0_0,.int .i64 a0_1,.int .i64 a0_2,.int .i64 a0_3]) (t := 154) ?hr ?_;(case hd => rfl);(case hg => rfl);(case hr => first | (go_simp;done) | (go_simp;rfl));intro gb240 hg w6 hbox hb;have n0_ := Zb.mk (Zr (by repeat (first | (with_reducible first | exact HB.out | apply Zf | apply Za | apply Zd) | exact HB.out)) hb);have n1_ := Zb.mk (hbox);have n2_ := Zb.mk ((by rw [hg];exact (Zp (by repeat (first | (with_reducible first | exact HB.out | apply Zf | apply Za | apply Zd) | exact HB.out))) : w.heap.size ≤ gb240));have n3_ := Zb.mk ((by rw [hg];exact (Zp (by repeat (first | (with_reducible first | exact HB.out | apply Zf | apply Za | apply Zd) | exact HB.out))) : w.heap.size ≤ gb240));clear HB;have HB := n0_;have BK240 := n1_;have GW240 := n2_;have GE240 := n3_;clear n0_ n1_ n2_ n3_;clear hb hbox hg;have hcz7_0 : w6.cell? ⟨gb240,0,none⟩ = some (.int .i64 a0_0) := (Zg BK240.out 0).trans rfl;have hcz7_1 : w6.cell? ⟨gb240,1,none⟩ = some (.int .i64 a0_1) := (Zg BK240.out 1).trans rfl;have hcz7_2 : w6.cell? ⟨gb240,2,none⟩ = some (.int .i64 a0_2) := (Zg BK240.out 2).trans rfl;have hcz7_3 : w6.cell? ⟨gb240,3,none⟩ = some (.int .i64 a0_3) := (Zg BK240.out 3).trans rfl;have hfz7_0 := Zh BK240.out 0;have hfz7_1 := Zh BK240.out 1;have hfz7_2 := Zh BK240.out 2;have hfz7_3 := Zh BK240.out 3))
   go_ret;exact ⟨by first | rfl | (simp [Zu,Zt] <;> rfl) | (simp [*,Zu,Zt] <;> rfl),by repeat (first | (with_reducible first | exact HB.out | apply Zf | apply Za | apply Zd | refine Zo ?_ GE240.out) | exact HB.out)⟩
end Go.Proofs.Ythbajahklnpkcaa.PA

namespace Go.Proofs.Ythbajahklnpkcaa.PA
open Go.RowKit Go.Proofs.YthbajahklnpkcaaW.PrintWords Go.Proofs.YthbajahklnpkcaaW.PrintLast Go.Proofs.YthbajahklnpkcaaW.PrintMore
attribute [local go_sem] ZK ZL ZR ZU ZD ZC ZM ZN
set_option linter.unusedVariables false
set_option linter.unusedSimpArgs false
def Xq.f (a0_0 : Int) (a0_1 : Int) (a0_2 : Int) (a0_3 : Int) (a1 : Int) (a2 : Int) (a3 : Int) : Option (Int) := if a1 = 0 then (some (wrap64 ((wrap64 ((wrap64 (a3 * a0_0)) + a2)) * a0_2))) else (some (wrap64 ((wrap64 ((wrap64 ((wrap64 ((wrap64 ((wrap64 ((wrap64 ((wrap64 (Int.tdiv a3 4)) * (wrap64 (Int.tdiv (wrap64 ((wrap64 (a0_0 + 4)) - 1)) 4)))) + (wrap64 (Int.tdiv a2 4)))) * 4)) * 4)) + (wrap64 ((Int.tmod a3 4) * 4)))) + (Int.tmod a2 4))) * a0_2)))
set_option maxHeartbeats 8000000 in
set_option maxRecDepth 100000 in
theorem Xq.calls (a0_0 : Int) (a0_1 : Int) (a0_2 : Int) (a0_3 : Int) (a1 : Int) (a2 : Int) (a3 : Int) (r : Int) (w : World) (h : Xq.f a0_0 a0_1 a0_2 a0_3 a1 a2 a3 = some r) :
 Calls Try.prog 133 #[.agg #[.int .i64 a0_0,.int .i64 a0_1,.int .i64 a0_2,.int .i64 a0_3],.int .i64 a1,.int .i64 a2,.int .i64 a3] w fun e w' => e = .returned (.int .i64 r) ∧ Below w.heap.size w w' := by
 have hu154 := Try.underlying154;have HB := Zb.mk (Below.refl w.heap.size w);have H : (if a1 = 0 then (some (wrap64 ((wrap64 ((wrap64 (a3 * a0_0)) + a2)) * a0_2))) else (some (wrap64 ((wrap64 ((wrap64 ((wrap64 ((wrap64 ((wrap64 ((wrap64 ((wrap64 (Int.tdiv a3 4)) * (wrap64 (Int.tdiv (wrap64 ((wrap64 (a0_0 + 4)) - 1)) 4)))) + (wrap64 (Int.tdiv a2 4)))) * 4)) * 4)) + (wrap64 ((Int.tmod a3 4) * 4)))) + (Int.tmod a2 4))) * a0_2)))) = some r := h;clear h
 by_cases c5 : a1 = 0
 · rw [if_pos c5] at H
   have c5b0 : (a1 == 0) = true := beq_iff_eq.mpr c5;have c5b1 : (a1 != 0) = false := bne_eq_false_iff_eq.mpr c5;clear c5;obtain rfl := Option.some.inj H
   go_enter Try.func133,Try.ntmps133
   go_wp2_with (first | ((with_reducible refine ZJ (N := 4) rfl ?_);refine ZI ?hg (N := 4) ?hd (cs := #[.int .i64 a0_0,.int .i64 a0_1,.int .i64 a0_2,.int .i64 a0_3]) (t := 154) ?hr ?_;(case hd => rfl);(case hg => rfl);(case hr => first | (go_simp;done) | (go_simp;rfl));intro gb241 hg w6 hbox hb;have n0_ := Zb.mk (Zr (by repeat (first | (with_reducible first | exact HB.out | apply Zf | apply Za | apply Zd) | exact HB.out)) hb);have n1_ := Zb.mk (hbox);have n2_ := Zb.mk ((by rw [hg];exact (Zp (by repeat (first | (with_reducible first | exact HB.out | apply Zf | apply Za | apply Zd) | exact HB.out))) : w.heap.size ≤ gb241));have n3_ := Zb.mk ((by rw [hg];exact (Zp (by repeat (first | (with_reducible first | exact HB.out | apply Zf | apply Za | apply Zd) | exact HB.out))) : w.heap.size ≤ gb241));clear HB;have HB := n0_;have BK241 := n1_;have GW241 := n2_;have GE241 := n3_;clear n0_ n1_ n2_ n3_;clear hb hbox hg;have hcz7_0 : w6.cell? ⟨gb241,0,none⟩ = some (.int .i64 a0_0) := (Zg BK241.out 0).trans rfl;have hcz7_1 : w6.cell? ⟨gb241,1,none⟩ = some (.int .i64 a0_1) := (Zg BK241.out 1).trans rfl;have hcz7_2 : w6.cell? ⟨gb241,2,none⟩ = some (.int .i64 a0_2) := (Zg BK241.out 2).trans rfl;have hcz7_3 : w6.cell? ⟨gb241,3,none⟩ = some (.int .i64 a0_3) := (Zg BK241.out 3).trans rfl;have hfz7_0 := Zh BK241.out 0;have hfz7_1 := Zh BK241.out 1;have hfz7_2 := Zh BK241.out 2;have hfz7_3 := Zh BK241.out 3))
   go_ret;exact ⟨by first | rfl | (simp [Zu,Zt] <;> rfl) | (simp [*,Zu,Zt] <;> rfl),by repeat (first | (with_reducible first | exact HB.out | apply Zf | apply Za | apply Zd | refine Zo ?_ GE241.out) | exact HB.out)⟩
 · rw [if_neg c5] at H
   have c5b0 : (a1 == 0) = false := beq_eq_false_iff_ne.mpr c5;have c5b1 : (a1 != 0) = true := bne_iff_ne.mpr c5;obtain rfl := Option.some.inj H
   go_enter Try.func133,Try.ntmps133
   go_wp2_with (first | ((with_reducible refine ZJ (N := 4) rfl ?_);refine ZI ?hg (N := 4) ?hd (cs := #[.int .i64 a0_0,.int .i64 a0_1,.int .i64 a0_2,.int .i64 a0_3]) (t := 154) ?hr ?_;(case hd => rfl);(case hg => rfl);(case hr => first | (go_simp;done) | (go_simp;rfl));intro gb241 hg w8 hbox hb;have n0_ := Zb.mk (Zr (by repeat (first | (with_reducible first | exact HB.out | apply Zf | apply Za | apply Zd) | exact HB.out)) hb);have n1_ := Zb.mk (hbox);have n2_ := Zb.mk ((by rw [hg];exact (Zp (by repeat (first | (with_reducible first | exact HB.out | apply Zf | apply Za | apply Zd) | exact HB.out))) : w.heap.size ≤ gb241));have n3_ := Zb.mk ((by rw [hg];exact (Zp (by repeat (first | (with_reducible first | exact HB.out | apply Zf | apply Za | apply Zd) | exact HB.out))) : w.heap.size ≤ gb241));clear HB;have HB := n0_;have BK241 := n1_;have GW241 := n2_;have GE241 := n3_;clear n0_ n1_ n2_ n3_;clear hb hbox hg;have hcz9_0 : w8.cell? ⟨gb241,0,none⟩ = some (.int .i64 a0_0) := (Zg BK241.out 0).trans rfl;have hcz9_1 : w8.cell? ⟨gb241,1,none⟩ = some (.int .i64 a0_1) := (Zg BK241.out 1).trans rfl;have hcz9_2 : w8.cell? ⟨gb241,2,none⟩ = some (.int .i64 a0_2) := (Zg BK241.out 2).trans rfl;have hcz9_3 : w8.cell? ⟨gb241,3,none⟩ = some (.int .i64 a0_3) := (Zg BK241.out 3).trans rfl;have hfz9_0 := Zh BK241.out 0;have hfz9_1 := Zh BK241.out 1;have hfz9_2 := Zh BK241.out 2;have hfz9_3 := Zh BK241.out 3))
   go_ret;exact ⟨by first | rfl | (simp [Zu,Zt] <;> rfl) | (simp [*,Zu,Zt] <;> rfl),by repeat (first | (with_reducible first | exact HB.out | apply Zf | apply Za | apply Zd | refine Zo ?_ GE241.out) | exact HB.out)⟩
end Go.Proofs.Ythbajahklnpkcaa.PA

namespace Go.Proofs.Ythbajahklnpkcaa.PA
open Go.RowKit Go.Shelf Go.Proofs.YthbajahklnpkcaaW.PrintWords Go.Proofs.YthbajahklnpkcaaW.PrintLast Go.Proofs.YthbajahklnpkcaaW.PrintMore
set_option linter.unusedVariables false
set_option linter.unusedSimpArgs false
def packN (n : Int) : Int := if n = 1 then 1 else if n = 2 then 3 else 4
theorem idx1 (w : World) : (Instr.index 170 (.agg #[.nilIface,.iface 167 (.agg #[.int .i64 1]),.iface 167 (.agg #[.int .i64 3]),.iface 167 (.agg #[.int .i64 4]),.iface 169 (.agg #[])]) (.int .i64 1)).run Try.prog w = .ok (.iface 167 (.agg #[.int .i64 1])) w := by kernel_rfl
theorem idx2 (w : World) : (Instr.index 170 (.agg #[.nilIface,.iface 167 (.agg #[.int .i64 1]),.iface 167 (.agg #[.int .i64 3]),.iface 167 (.agg #[.int .i64 4]),.iface 169 (.agg #[])]) (.int .i64 2)).run Try.prog w = .ok (.iface 167 (.agg #[.int .i64 3])) w := by kernel_rfl
theorem idx3 (w : World) : (Instr.index 170 (.agg #[.nilIface,.iface 167 (.agg #[.int .i64 1]),.iface 167 (.agg #[.int .i64 3]),.iface 167 (.agg #[.int .i64 4]),.iface 169 (.agg #[])]) (.int .i64 3)).run Try.prog w = .ok (.iface 167 (.agg #[.int .i64 4])) w := by kernel_rfl
set_option maxRecDepth 100000 in
theorem JF (n : Int) (h1 : 1 ≤ n) (h3 : n ≤ 3) (w : World) : Calls Try.prog 131 #[.int .i64 n] w fun e w' => e = .returned (.iface 167 (.agg #[.int .i64 (packN n)])) ∧ w' = w := by
 rcases (show n = 1 ∨ n = 2 ∨ n = 3 by omega) with rfl | rfl | rfl
 · have hid := idx1 w
   go_enter Try.func131,Try.ntmps131
   go_wp2
   go_ret;exact ⟨rfl,rfl⟩
 · have hid := idx2 w
   go_enter Try.func131,Try.ntmps131
   go_wp2
   go_ret;exact ⟨rfl,rfl⟩
 · have hid := idx3 w
   go_enter Try.func131,Try.ntmps131
   go_wp2
   go_ret;exact ⟨rfl,rfl⟩
set_option maxRecDepth 100000 in
theorem Yj (b x y : Int) (w : World) : Calls Try.prog 179 #[.agg #[.int .i64 b],.int .i64 x,.int .i64 y] w fun e w' => e = .returned (.slice (some ⟨w.heap.size + 1,0,none⟩) 1 1) ∧ Blk w' (w.heap.size + 1) #[.int .i64 x,.int .i64 y,.int .i64 b,.int .i64 1] 154 ∧ Below w.heap.size w w' ∧ w'.heap.size = w.heap.size + 2 := by
 have HB := Blk.new w #[.int .i64 b] 167;have g0 := HB.cell 0 (v := .int .i64 b) rfl
 go_enter Try.func179,Try.ntmps179
 go_wp2
 go_ret;refine ⟨rfl,?_,((Below.refl _ w).alloc (Nat.le_refl _) _).alloc (by simp) _,by simp⟩;have := Blk.new (w.alloc (.cells #[.int .i64 b] 167)) #[.int .i64 x,.int .i64 y,.int .i64 b,.int .i64 1] 154;rw [World.size_alloc] at this;exact this
def szP (m w h b : Int) : Int := if m = 0 then w * h * b else (w + 3) / 4 * ((h + 3) / 4) * 4 * 4 * b
theorem J4 {a b : Int} {A B : Int} (h1 : 0 ≤ a) (h2 : a ≤ A) (h3 : 0 ≤ b) (h4 : b ≤ B) : 0 ≤ a * b ∧ a * b ≤ A * B := ⟨Int.mul_nonneg h1 h3,Int.mul_le_mul h2 h4 h3 (Int.le_trans h1 h2)⟩
theorem szP_eq (m w h b : Int) (hw0 : 0 ≤ w) (hw1 : w ≤ 64) (hh0 : 0 ≤ h) (hh1 : h ≤ 64) (hb0 : 0 ≤ b) (hb1 : b ≤ 4) : Xx.f w h b 1 m = some (szP m w h b) ∧ 0 ≤ szP m w h b ∧ szP m w h b ≤ 16384 := by
 unfold Xx.f szP;split
 · obtain ⟨a1,a2⟩ := J4 hw0 hw1 hh0 hh1
   obtain ⟨a3,a4⟩ := J4 a1 a2 hb0 hb1;rw [w64 (x := w * h) (by omega) (by omega),w64 (x := w * h * b) (by omega) (by omega)];exact ⟨rfl,a3,by omega⟩
 · rw [w64 (x := w + 4) (by omega) (by omega),w64 (x := w + 4 - 1) (by omega) (by omega),w64 (x := h + 4) (by omega) (by omega),w64 (x := h + 4 - 1) (by omega) (by omega)]
   rw [Int.tdiv_eq_ediv_of_nonneg (show 0 ≤ w + 4 - 1 by omega),Int.tdiv_eq_ediv_of_nonneg (show 0 ≤ h + 4 - 1 by omega)];rw [show w + 4 - 1 = w + 3 by omega,show h + 4 - 1 = h + 3 by omega];obtain ⟨a1,a2⟩ := J4 (a := (w + 3) / 4) (A := 16) (by omega) (by omega) (b := (h + 3) / 4) (B := 16) (by omega) (by omega);rw [w64 (x := (w + 3) / 4) (by omega) (by omega),w64 (x := (h + 3) / 4) (by omega) (by omega)];generalize (w + 3) / 4 * ((h + 3) / 4) = q at a1 a2 ⊢;rw [w64 (x := q) (by omega) (by omega),w64 (x := q * 4) (by omega) (by omega),w64 (x := q * 4 * 4) (by omega) (by omega)];obtain ⟨a3,a4⟩ := J4 (a := q * 4 * 4) (A := 4096) (by omega) (by omega) hb0 hb1;rw [w64 (x := q * 4 * 4 * b) (by omega) (by omega)];exact ⟨rfl,a3,by omega⟩
theorem QT : ∀ (b : Int) w,(method 311 167 (.agg #[.int .i64 b]) "continuo/video.planes").run Try.prog w = .ok (179,.agg #[.int .i64 b]) w := fun _ _ => by kernel_rfl
def Qs.f (a0 a1 a2 a3 : Int) : Option Int := if 1 ≤ a0 ∧ a0 ≤ 3 ∧ 0 ≤ a2 ∧ a2 ≤ 64 ∧ 0 ≤ a3 ∧ a3 ≤ 64 then some (szP a1 a2 a3 (packN a0)) else none
set_option maxRecDepth 100000 in
set_option maxHeartbeats 4000000 in
theorem Qs.calls (a0 a1 a2 a3 : Int) (r : Int) (w : World) (h : Qs.f a0 a1 a2 a3 = some r) :
 Calls Try.prog 84 #[.int .i64 a0,.int .i64 a1,.int .i64 a2,.int .i64 a3] w fun e w' => e = .returned (.int .i64 r) ∧ Below w.heap.size w w' := by
 unfold Qs.f at h;split at h
 · rename_i hg
   obtain ⟨g1,g2,g3,g4,g5,g6⟩ := hg;obtain rfl := Option.some.inj h;clear h
   have hp : 0 ≤ packN a0 ∧ packN a0 ≤ 4 := by unfold packN;split <;> (try split) <;> omega
   obtain ⟨hs,s0,s1⟩ := szP_eq a1 a2 a3 (packN a0) g3 g4 g5 g6 hp.1 hp.2;have HO := Zb.mk (JF a0 g1 g2 w);have hmp := QT (packN a0);generalize packN a0 = b at hs HO hmp s0 s1 ⊢;have HPl := Zb.mk (Yj b a2 a3 w)
   have HSz := fun w' => Zb.mk (Xx.calls a2 a3 b 1 a1 _ w' hs)
   generalize szP a1 a2 a3 b = z at HSz s0 s1 ⊢;clear hs hp
   have hz : wrap64 (0 + z) = z := by rw [Int.zero_add];exact w64 (by omega) (by omega)
   go_enter Try.func84,Try.ntmps84
   go_wp2_with (first | (go_at_call 131;refine HO.out.mono ?_;rintro e w1 ⟨rfl,rfl⟩) | (go_at_call 179;refine HPl.out.mono ?_;rintro e w2 ⟨rfl,hk2,hb2,hs2⟩))
   have HK2 := Zb.mk hk2;have HB2 := Zb.mk hb2;clear hk2 hb2
   go_loopw [9,11,18] (fun s9 s11 s18 wr => ∃ i : Nat,i ≤ 1 ∧ s18 = .int .i64 i ∧ s9 = .int .i64 (if i = 0 then 0 else z) ∧ Zb (Below w2.heap.size w2 wr))
    (fun s9 s11 s18 wr => 1 - (match s18 with | .int _ x => x.toNat | _ => 0))
   case atStart => exact ⟨0,by omega,rfl,rfl,⟨Below.refl _ _⟩⟩
   case round =>
    obtain ⟨i,hi,rfl,rfl,HB⟩ := hrel
    rcases (show i = 0 ∨ i = 1 by omega) with rfl | rfl
    · have hk := HK2.out.X5 HB.out
      have c0 := hk.cell 0 (v := .int .i64 a2) rfl;have c1 := hk.cell 1 (v := .int .i64 a3) rfl;have c2 := hk.cell 2 (v := .int .i64 b) rfl;have c3 := hk.cell 3 (v := .int .i64 1) rfl;have hx := Blk.new wr #[.int .i64 a2,.int .i64 a3,.int .i64 b,.int .i64 1] 154;have d0 := hx.cell 0 (v := .int .i64 a2) rfl;have d1 := hx.cell 1 (v := .int .i64 a3) rfl;have d2 := hx.cell 2 (v := .int .i64 b) rfl;have d3 := hx.cell 3 (v := .int .i64 1) rfl
      go_wp2_with (first | (go_at_call 132;refine (HSz _).out.mono ?_;rintro e w4 ⟨rfl,hb4⟩))
      go_roundw
      case rel => exact ⟨1,by omega,by go_num,by first | rfl | simp,⟨(HB.out.alloc HB.out.size _).trans (hb4.mono (by have := HB.out.size;simp;omega))⟩⟩
      case measure => simp
    · go_wp2
      go_ret;exact ⟨by first | rfl | simp,HB2.out.trans (HB.out.mono HB2.out.size)⟩
 · cases h
end Go.Proofs.Ythbajahklnpkcaa.PA

namespace Go.Proofs.Ythbajahklnpkcaa.PA
open Go.RowKit Go.Shelf Go.Proofs.YthbajahklnpkcaaW.PrintWords Go.Proofs.YthbajahklnpkcaaW.PrintLast Go.Proofs.YthbajahklnpkcaaW.PrintMore
set_option linter.unusedVariables false
set_option linter.unusedSimpArgs false
theorem mk16 (W : World) : (Instr.makeSlice 103 (.int .i64 16) (.int .i64 16)).run Try.prog W = .ok (.slice (some ⟨W.heap.size,0,none⟩) 16 16) (W.alloc (.cells #[.int .u8 0,.int .u8 0,.int .u8 0,.int .u8 0,.int .u8 0,.int .u8 0,.int .u8 0,.int .u8 0,.int .u8 0,.int .u8 0,.int .u8 0,.int .u8 0,.int .u8 0,.int .u8 0,.int .u8 0,.int .u8 0] 5)) := by kernel_rfl
theorem size5 (w : World) : (Go.sizeOf 5).run Try.prog w = .ok 1 w := by kernel_rfl
def iOf : Value → Int
 | .int _ x => x
 | _ => 0
def outK : Nat → Array Value
 | 0 => #[.int .u8 0,.int .u8 0,.int .u8 0,.int .u8 0,.int .u8 0,.int .u8 0,.int .u8 0,.int .u8 0,.int .u8 0,.int .u8 0,.int .u8 0,.int .u8 0,.int .u8 0,.int .u8 0,.int .u8 0,.int .u8 0]
 | 1 => #[.int .u8 97,.int .u8 0,.int .u8 0,.int .u8 0,.int .u8 0,.int .u8 0,.int .u8 0,.int .u8 0,.int .u8 0,.int .u8 0,.int .u8 0,.int .u8 0,.int .u8 0,.int .u8 0,.int .u8 0,.int .u8 0]
 | 2 => #[.int .u8 97,.int .u8 98,.int .u8 0,.int .u8 0,.int .u8 0,.int .u8 0,.int .u8 0,.int .u8 0,.int .u8 0,.int .u8 0,.int .u8 0,.int .u8 0,.int .u8 0,.int .u8 0,.int .u8 0,.int .u8 0]
 | 3 => #[.int .u8 97,.int .u8 98,.int .u8 0,.int .u8 0,.int .u8 99,.int .u8 0,.int .u8 0,.int .u8 0,.int .u8 0,.int .u8 0,.int .u8 0,.int .u8 0,.int .u8 0,.int .u8 0,.int .u8 0,.int .u8 0]
 | _ => #[.int .u8 97,.int .u8 98,.int .u8 0,.int .u8 0,.int .u8 99,.int .u8 100,.int .u8 0,.int .u8 0,.int .u8 0,.int .u8 0,.int .u8 0,.int .u8 0,.int .u8 0,.int .u8 0,.int .u8 0,.int .u8 0]
structure TS (n0 ob pb : Nat) (w : World) (k : Nat) (W : World) : Prop where
 p : Blk W n0 #[.int .i64 1,.int .i64 0,.int .i64 2,.int .i64 2,.string ⟨#[97,98,99,100]⟩] 49
 r : Blk W (n0 + 1) #[.int .i64 0,.int .i64 0,.int .i64 0,.int .i64 0,.string ⟨#[]⟩] 49
 o : Blk W ob (outK k) 5
 q : Blk W pb #[.int .i64 2,.int .i64 2,.int .i64 1,.int .i64 1] 154
 b : Below w.heap.size w W
theorem TS.bel {n0 ob pb k : Nat} {w W W' : World} (h : TS n0 ob pb w k W) (hb : Below W.heap.size W W') : TS n0 ob pb w k W' :=
 ⟨h.p.X5 hb,h.r.X5 hb,h.o.X5 hb,h.q.X5 hb,h.b.trans (hb.mono h.b.size)⟩
theorem TS.put {n0 ob pb k k' pos : Nat} {w W : World} {v : Value} (h : TS n0 ob pb w k W) (h1 : n0 + 1 < ob) (h2 : ob < pb) (h3 : w.heap.size ≤ ob) (e : (outK k).setIfInBounds pos v = outK k') : TS n0 ob pb w k' (W.setCell ⟨ob,pos,none⟩ v) :=
 ⟨h.p.other (a := ⟨ob,pos,none⟩) v (by show n0 ≠ ob;omega),h.r.other (a := ⟨ob,pos,none⟩) v (by show n0 + 1 ≠ ob;omega),e ▸ h.o.set pos v,h.q.other (a := ⟨ob,pos,none⟩) v (by show pb ≠ ob;omega),h.b.setCell (p := ⟨ob,pos,none⟩) h3 _⟩
set_option maxRecDepth 100000 in
set_option maxHeartbeats 8000000 in
theorem turned_awake (w : World) : Calls Try.prog 87 #[.agg #[.int .i64 1,.int .i64 0,.int .i64 2,.int .i64 2,.string ⟨#[97,98,99,100]⟩],.int .i64 1] w fun e w' => e = .returned (.agg #[.int .i64 1,.int .i64 1,.int .i64 2,.int .i64 2,.string ⟨#[97,98,0,0,99,100,0,0,0,0,0,0,0,0,0,0]⟩]) ∧ Below w.heap.size w w' := by
 have HB := Blk.new w #[.int .i64 1,.int .i64 0,.int .i64 2,.int .i64 2,.string ⟨#[97,98,99,100]⟩] 49
 have HZ := fun w' => Zb.mk (Qs.calls 1 1 2 2 16 w' (by decide))
 have b0 := (HB.alloc (.cells #[.int .i64 0,.int .i64 0,.int .i64 0,.int .i64 0,.string ⟨#[]⟩] 49)).cell 0 (v := .int .i64 1) rfl;have b1 := (HB.alloc (.cells #[.int .i64 0,.int .i64 0,.int .i64 0,.int .i64 0,.string ⟨#[]⟩] 49)).cell 1 (v := .int .i64 0) rfl;have b2 := (HB.alloc (.cells #[.int .i64 0,.int .i64 0,.int .i64 0,.int .i64 0,.string ⟨#[]⟩] 49)).cell 2 (v := .int .i64 2) rfl;have b3 := (HB.alloc (.cells #[.int .i64 0,.int .i64 0,.int .i64 0,.int .i64 0,.string ⟨#[]⟩] 49)).cell 3 (v := .int .i64 2) rfl;have hmk := mk16
 go_enter Try.func87,Try.ntmps87
 go_wp2_with (first | (go_at_call 84;refine (HZ _).out.mono ?_;rintro e w1 ⟨rfl,hb1⟩))
 have HP1 := (HB.alloc (.cells #[.int .i64 0,.int .i64 0,.int .i64 0,.int .i64 0,.string ⟨#[]⟩] 49)).X5 hb1;have HR1 := (Blk.new (w.alloc (.cells #[.int .i64 1,.int .i64 0,.int .i64 2,.int .i64 2,.string ⟨#[97,98,99,100]⟩] 49)) #[.int .i64 0,.int .i64 0,.int .i64 0,.int .i64 0,.string ⟨#[]⟩] 49).X5 hb1;rw [World.size_alloc] at HR1;have hB1 : Below w.heap.size w w1 := ((((Below.refl _ w).alloc (Nat.le_refl _) _).alloc (by simp) _)).trans (hb1.mono (by simp;omega))
 have hs1 : w.heap.size + 2 ≤ w1.heap.size := by have := hb1.size;simpa using this
 obtain ⟨w2,hw2⟩ : ∃ w2,w1.alloc (.cells #[.int .u8 0,.int .u8 0,.int .u8 0,.int .u8 0,.int .u8 0,.int .u8 0,.int .u8 0,.int .u8 0,.int .u8 0,.int .u8 0,.int .u8 0,.int .u8 0,.int .u8 0,.int .u8 0,.int .u8 0,.int .u8 0] 5) = w2 := ⟨_,rfl⟩
 obtain ⟨ob,hob⟩ : ∃ ob,w1.heap.size = ob := ⟨_,rfl⟩
 have HP2 := HP1.alloc (.cells #[.int .u8 0,.int .u8 0,.int .u8 0,.int .u8 0,.int .u8 0,.int .u8 0,.int .u8 0,.int .u8 0,.int .u8 0,.int .u8 0,.int .u8 0,.int .u8 0,.int .u8 0,.int .u8 0,.int .u8 0,.int .u8 0] 5);have HR2 := HR1.alloc (.cells #[.int .u8 0,.int .u8 0,.int .u8 0,.int .u8 0,.int .u8 0,.int .u8 0,.int .u8 0,.int .u8 0,.int .u8 0,.int .u8 0,.int .u8 0,.int .u8 0,.int .u8 0,.int .u8 0,.int .u8 0,.int .u8 0] 5);have HO2 : Blk (w1.alloc (.cells #[.int .u8 0,.int .u8 0,.int .u8 0,.int .u8 0,.int .u8 0,.int .u8 0,.int .u8 0,.int .u8 0,.int .u8 0,.int .u8 0,.int .u8 0,.int .u8 0,.int .u8 0,.int .u8 0,.int .u8 0,.int .u8 0] 5)) w1.heap.size (outK 0) 5 := Blk.new w1 _ 5;have HB2 := hB1.alloc hB1.size (.cells #[.int .u8 0,.int .u8 0,.int .u8 0,.int .u8 0,.int .u8 0,.int .u8 0,.int .u8 0,.int .u8 0,.int .u8 0,.int .u8 0,.int .u8 0,.int .u8 0,.int .u8 0,.int .u8 0,.int .u8 0,.int .u8 0] 5)
 have hs2 : ob < w2.heap.size := by rw [← hw2,← hob];simp
 rw [hw2,hob];rw [hw2] at HP2 HR2 HO2 HB2;rw [hob] at HO2 hs1
 have hno : w.heap.size + 1 < ob := by omega
 clear hw2 hob HP1 HR1 hB1 hb1 b0 b1 b2 b3 HB HZ hmk;have b0 := HP2.cell 0 (v := .int .i64 1) rfl;have b2 := HP2.cell 2 (v := .int .i64 2) rfl;have b3 := HP2.cell 3 (v := .int .i64 2) rfl;have HP := Zb.mk HP2;have HR := Zb.mk HR2;have HO := Zb.mk HO2;have HBw := Zb.mk HB2;clear HP2 HR2 HO2 HB2
 have HOF := fun w' => Zb.mk (JF 1 (by decide) (by decide) w')
 rw [show packN 1 = 1 from rfl] at HOF;have hmp := QT 1
 have HPL := fun w' => Zb.mk (Yj 1 2 2 w')
 go_region_held3 (fun W' => W'.cell? ⟨w.heap.size,0,none⟩ = some (.int .i64 1) ∧ W'.cell? ⟨w.heap.size,2,none⟩ = some (.int .i64 2) ∧ W'.cell? ⟨w.heap.size,3,none⟩ = some (.int .i64 2))
  (first | exact ⟨b0,b2,b3⟩ | exact ⟨(hb3.cell (p := ⟨w.heap.size,0,none⟩) hP0).trans b0,(hb3.cell (p := ⟨w.heap.size,2,none⟩) hP0).trans b2,(hb3.cell (p := ⟨w.heap.size,3,none⟩) hP0).trans b3⟩)
  (first
   | (go_at_call 131;refine (HOF _).out.mono ?_;rintro e w' ⟨rfl,rfl⟩)
   | (go_at_call 179;refine (HPL _).out.mono ?_;rintro e w' ⟨rfl,hk3,hb3,hs3⟩;have hP0 := HP.out.lt))
 have hb3 : Below w2.heap.size w2 w' := (Zd (Below.refl _ w2)).trans hb3;have HT := Zb.mk (show TS w.heap.size ob (w2.heap.size + 1) w 0 w' from ⟨HP.out.X5 hb3,HR.out.X5 hb3,HO.out.X5 hb3,hk3,HBw.out.trans (hb3.mono HBw.out.size)⟩)
 obtain ⟨pb,hpb⟩ : ∃ pb,w2.heap.size + 1 = pb := ⟨_,rfl⟩
 rw [hpb] at HT ⊢
 have hobp : ob < pb := by omega
 clear hk3 hb3 hs3 hpb HP HR HO HBw HPL HOF hmp b0 b2 b3 hs2 hP0
 go_wp2
 go_loopw [6,7,9,10,11,30] (fun s6 s7 s9 s10 s11 s30 wr => ∃ i : Int,0 ≤ i ∧ i ≤ 1 ∧ s30 = .int .i64 i ∧ (∃ y,s6 = .int .i64 y) ∧ (∃ y,s7 = .int .i64 y) ∧ (i = 0 → s6 = .int .i64 0 ∧ s7 = .int .i64 0) ∧ Zb (TS w.heap.size ob pb w (4 * i.toNat) wr))
  (fun s6 s7 s9 s10 s11 s30 wr => 1 - (iOf s30).toNat)
 case atStart => exact ⟨0,by omega,by omega,rfl,⟨_,rfl⟩,⟨_,rfl⟩,fun _ => ⟨rfl,rfl⟩,HT⟩
 case round =>
  obtain ⟨i,hi0,hi,rfl,⟨y6,rfl⟩,⟨y7,rfl⟩,h67,HT1⟩ := hrel
  rcases (show i = 0 ∨ i = 1 by omega) with rfl | rfl
  · obtain ⟨h6,h7⟩ := h67 rfl
    cases h6
    cases h7
    clear h67
    obtain ⟨wo,hwo⟩ : ∃ wo,wo = wr := ⟨_,rfl⟩
    subst hwo;have c0 := HT1.out.q.cell 0 (v := .int .i64 2) rfl;have c1 := HT1.out.q.cell 1 (v := .int .i64 2) rfl;have c2 := HT1.out.q.cell 2 (v := .int .i64 1) rfl;have c3 := HT1.out.q.cell 3 (v := .int .i64 1) rfl;have hx := Blk.new wo #[.int .i64 2,.int .i64 2,.int .i64 1,.int .i64 1] 154;have d0 := hx.cell 0 (v := .int .i64 2) rfl;have d1 := hx.cell 1 (v := .int .i64 2) rfl
    have HT2 : Zb (TS w.heap.size ob pb w 0 (wo.alloc (.cells #[.int .i64 2,.int .i64 2,.int .i64 1,.int .i64 1] 154))) := ⟨HT1.out.bel ((Below.refl _ _).alloc (Nat.le_refl _) _)⟩
    have HX := Zb.mk hx;have hbx : ob < wo.heap.size := HT1.out.o.lt
    obtain ⟨xb,hxb⟩ : ∃ xb,wo.heap.size = xb := ⟨_,rfl⟩
    rw [hxb] at hx HX hbx
    go_wp2
    clear c0 c1 c2 c3 d0 d1 hx hxb
    go_loopw [10,11,36] (fun s10 s11 s36 wr => ∃ y : Nat,y ≤ 2 ∧ s36 = .int .i64 y ∧ Zb (TS w.heap.size ob pb w (2 * y) wr) ∧ Zb (Blk wr xb #[.int .i64 2,.int .i64 2,.int .i64 1,.int .i64 1] 154))
     (fun s10 s11 s36 wr => 2 - (iOf s36).toNat)
    case atStart => exact ⟨0,by omega,rfl,HT2,HX⟩
    case round =>
     obtain ⟨y,hy,rfl,HT3,HX3⟩ := hrel;have d0 := HX3.out.cell 0 (v := .int .i64 2) rfl;have d1 := HX3.out.cell 1 (v := .int .i64 2) rfl
     rcases (show y < 2 ∨ y = 2 by omega) with hy2 | rfl
     · have hyz : (y : Int) < 2 := by omega
       go_wp2
       go_loopw [11,41] (fun s11 s41 wr => ∃ x : Nat,x ≤ 2 ∧ s41 = .int .i64 x ∧ Zb (TS w.heap.size ob pb w (2 * y + x) wr) ∧ Zb (Blk wr xb #[.int .i64 2,.int .i64 2,.int .i64 1,.int .i64 1] 154))
        (fun s11 s41 wr => 2 - (iOf s41).toNat)
       case atStart => exact ⟨0,by omega,rfl,HT3,HX3⟩
       case round =>
        obtain ⟨x,hx,rfl,HT4,HX4⟩ := hrel
        rcases (show x < 2 ∨ x = 2 by omega) with hx2 | rfl
        · have hxz : (x : Int) < 2 := by omega
          have HS6 : ∀ W',Below wr.heap.size wr W' → W'.cell? ⟨xb,0,none⟩ = some (.int .i64 2) ∧ W'.cell? ⟨xb,1,none⟩ = some (.int .i64 2) ∧ W'.cell? ⟨xb,2,none⟩ = some (.int .i64 1) ∧ W'.cell? ⟨xb,3,none⟩ = some (.int .i64 1) ∧ W'.cell? ⟨w.heap.size,1,none⟩ = some (.int .i64 0) ∧ W'.cell? ⟨w.heap.size,4,none⟩ = some (.string ⟨#[97,98,99,100]⟩) := by
           intro W' hb;have hx := HX4.out.X5 hb;have hp := (HT4.out.bel hb).p;exact ⟨hx.cell 0 rfl,hx.cell 1 rfl,hx.cell 2 rfl,hx.cell 3 rfl,hp.cell 1 rfl,hp.cell 4 rfl⟩
          have HS7 : ∀ W' vv,Below wr.heap.size wr W' → ∀ o,(W'.setCell ⟨ob,o,none⟩ vv).cell? ⟨xb,0,none⟩ = some (.int .i64 2) ∧ (W'.setCell ⟨ob,o,none⟩ vv).cell? ⟨xb,1,none⟩ = some (.int .i64 2) ∧ (W'.setCell ⟨ob,o,none⟩ vv).cell? ⟨xb,2,none⟩ = some (.int .i64 1) ∧ (W'.setCell ⟨ob,o,none⟩ vv).cell? ⟨xb,3,none⟩ = some (.int .i64 1) ∧ (W'.setCell ⟨ob,o,none⟩ vv).cell? ⟨w.heap.size,1,none⟩ = some (.int .i64 0) ∧ (W'.setCell ⟨ob,o,none⟩ vv).cell? ⟨w.heap.size,4,none⟩ = some (.string ⟨#[97,98,99,100]⟩) := by
           intro W' vv hb o
           have hn0 : w.heap.size ≠ ob := by omega
           have hnx : xb ≠ ob := by omega
           have hx := (HX4.out.X5 hb).other (a := ⟨ob,o,none⟩) vv hnx;have hp := ((HT4.out.bel hb).p).other (a := ⟨ob,o,none⟩) vv hn0;exact ⟨hx.cell 0 rfl,hx.cell 1 rfl,hx.cell 2 rfl,hx.cell 3 rfl,hp.cell 1 rfl,hp.cell 4 rfl⟩
          rcases (show x = 0 ∨ x = 1 by omega) with ex | ex <;> rcases (show y = 0 ∨ y = 1 by omega) with ey | ey
          · have HA1 : ∀ W',Below wr.heap.size wr W' → Zb (Calls Try.prog 133 #[.agg #[.int .i64 2,.int .i64 2,.int .i64 1,.int .i64 1],.int .i64 1,.int .i64 (x : Int),.int .i64 (y : Int)] W' fun e w' => e = .returned (.int .i64 0) ∧ Below wr.heap.size wr w') := by
             subst ex;subst ey
             exact fun W' hb => ⟨(Xq.calls 2 2 1 1 1 0 0 0 W' (by kernel_rfl)).mono (fun e w' (h : _ ∧ _) => And.intro h.1 (hb.trans (h.2.mono hb.size)))⟩
            have HA0 : ∀ W',Below wr.heap.size wr W' → Zb (Calls Try.prog 133 #[.agg #[.int .i64 2,.int .i64 2,.int .i64 1,.int .i64 1],.int .i64 0,.int .i64 (x : Int),.int .i64 (y : Int)] W' fun e w' => e = .returned (.int .i64 0) ∧ Below wr.heap.size wr w') := by
             subst ex;subst ey
             exact fun W' hb => ⟨(Xq.calls 2 2 1 1 0 0 0 0 W' (by kernel_rfl)).mono (fun e w' (h : _ ∧ _) => And.intro h.1 (hb.trans (h.2.mono hb.size)))⟩
            have HT4 : Zb (TS w.heap.size ob pb w 0 wr) := by
             subst ex;subst ey;exact ⟨HT4.out⟩
            have hx0 : Zb (x = 0) := ⟨ex⟩
            have hy0 : Zb (y = 0) := ⟨ey⟩
            clear ex ey
            have hwA : IntKind.i64.wrap 0 = 0 := by kernel_rfl
            have hwB : IntKind.i64.wrap 0 = 0 := by kernel_rfl
            have HCP : ∀ W',Below wr.heap.size wr W' → (Builtin.copy_ #[103,9] 3 #[.slice (some ⟨ob,0,none⟩) 16 16,.string (((ByteArray.mk #[97,98,99,100]).extract 0 4).extract 0 1)]).run Try.prog W' = .ok (.int .i64 1) (W'.setCell ⟨ob,0,none⟩ (.int .u8 97)) := by
             intro W' hb;have ho := (HT4.out.bel hb).o
             have e : ((ByteArray.mk #[97,98,99,100]).extract 0 4).extract 0 1 = ByteArray.mk #[97] := by kernel_rfl
             rw [e];have hc := ho.cell 0 (v := .int .u8 0) rfl
             have hj0 : ∀ j,j < (ByteArray.mk #[97]).size → j = 0 := fun j hj => Nat.lt_one_iff.mp hj
             refine run_copy_string W' 103 9 3 5 ob 0 16 16 (ByteArray.mk #[97]) Try.underlying103 size5 (by decide) ?_ (fun j hj => ho.frozen _);intro j hj;obtain rfl := hj0 j hj;show (W'.cell? ⟨ob,0,none⟩).isSome = true;rw [hc];rfl
            go_wp2
            go_region_held3 (fun W' => W'.cell? ⟨xb,0,none⟩ = some (.int .i64 2) ∧ W'.cell? ⟨xb,1,none⟩ = some (.int .i64 2) ∧ W'.cell? ⟨xb,2,none⟩ = some (.int .i64 1) ∧ W'.cell? ⟨xb,3,none⟩ = some (.int .i64 1) ∧ W'.cell? ⟨w.heap.size,1,none⟩ = some (.int .i64 0) ∧ W'.cell? ⟨w.heap.size,4,none⟩ = some (.string ⟨#[97,98,99,100]⟩))
             (first | exact HS6 _ (Zd (Below.refl _ _)) | exact HS6 _ h2b | exact HS6 _ h1b | exact HS7 _ _ h2b _ | exact HS7 _ _ h1b _)
             (first
              | (go_at_call 133;first
               | (with_reducible refine (HA1 _ ?hb).out.mono ?_;(case hb => first | exact h2b | exact Zd (Below.refl _ _));rintro e w' ⟨rfl,h1b⟩;have hcp := HCP w' h1b)
               | (with_reducible refine (HA0 _ ?hb).out.mono ?_;(case hb => first | exact h1b | exact Zd (Below.refl _ _));rintro e w' ⟨rfl,h2b⟩;have hcp := HCP w' h2b)))
            all_goals
             have hT5 : TS w.heap.size ob pb w 1 (w'.setCell ⟨ob,0,none⟩ (.int .u8 97)) := (HT4.out.bel h2b).put hno hobp (by omega) (by rfl);have hX5 : Blk (w'.setCell ⟨ob,0,none⟩ (.int .u8 97)) xb #[.int .i64 2,.int .i64 2,.int .i64 1,.int .i64 1] 154 := (HX4.out.X5 h2b).other (a := ⟨ob,0,none⟩) _ (by show xb ≠ ob;omega)
             go_wp2
             go_roundw
             case rel => exact ⟨x + 1,by omega,by go_num,by (obtain ⟨h⟩ := hx0;obtain ⟨h'⟩ := hy0;subst h;subst h';exact ⟨hT5⟩),⟨hX5⟩⟩
             case measure => simp [iOf];omega
          · have HA1 : ∀ W',Below wr.heap.size wr W' → Zb (Calls Try.prog 133 #[.agg #[.int .i64 2,.int .i64 2,.int .i64 1,.int .i64 1],.int .i64 1,.int .i64 (x : Int),.int .i64 (y : Int)] W' fun e w' => e = .returned (.int .i64 4) ∧ Below wr.heap.size wr w') := by
             subst ex;subst ey
             exact fun W' hb => ⟨(Xq.calls 2 2 1 1 1 0 1 4 W' (by kernel_rfl)).mono (fun e w' (h : _ ∧ _) => And.intro h.1 (hb.trans (h.2.mono hb.size)))⟩
            have HA0 : ∀ W',Below wr.heap.size wr W' → Zb (Calls Try.prog 133 #[.agg #[.int .i64 2,.int .i64 2,.int .i64 1,.int .i64 1],.int .i64 0,.int .i64 (x : Int),.int .i64 (y : Int)] W' fun e w' => e = .returned (.int .i64 2) ∧ Below wr.heap.size wr w') := by
             subst ex;subst ey
             exact fun W' hb => ⟨(Xq.calls 2 2 1 1 0 0 1 2 W' (by kernel_rfl)).mono (fun e w' (h : _ ∧ _) => And.intro h.1 (hb.trans (h.2.mono hb.size)))⟩
            have HT4 : Zb (TS w.heap.size ob pb w 2 wr) := by
             subst ex;subst ey;exact ⟨HT4.out⟩
            have hx0 : Zb (x = 0) := ⟨ex⟩
            have hy0 : Zb (y = 1) := ⟨ey⟩
            clear ex ey
            have hwA : IntKind.i64.wrap 4 = 4 := by kernel_rfl
            have hwB : IntKind.i64.wrap 2 = 2 := by kernel_rfl
            have HCP : ∀ W',Below wr.heap.size wr W' → (Builtin.copy_ #[103,9] 3 #[.slice (some ⟨ob,4,none⟩) 12 12,.string (((ByteArray.mk #[97,98,99,100]).extract 2 4).extract 0 1)]).run Try.prog W' = .ok (.int .i64 1) (W'.setCell ⟨ob,4,none⟩ (.int .u8 99)) := by
             intro W' hb;have ho := (HT4.out.bel hb).o
             have e : ((ByteArray.mk #[97,98,99,100]).extract 2 4).extract 0 1 = ByteArray.mk #[99] := by kernel_rfl
             rw [e];have hc := ho.cell 4 (v := .int .u8 0) rfl
             have hj0 : ∀ j,j < (ByteArray.mk #[99]).size → j = 0 := fun j hj => Nat.lt_one_iff.mp hj
             refine run_copy_string W' 103 9 3 5 ob 4 12 12 (ByteArray.mk #[99]) Try.underlying103 size5 (by decide) ?_ (fun j hj => ho.frozen _);intro j hj;obtain rfl := hj0 j hj;show (W'.cell? ⟨ob,4,none⟩).isSome = true;rw [hc];rfl
            go_wp2
            go_region_held3 (fun W' => W'.cell? ⟨xb,0,none⟩ = some (.int .i64 2) ∧ W'.cell? ⟨xb,1,none⟩ = some (.int .i64 2) ∧ W'.cell? ⟨xb,2,none⟩ = some (.int .i64 1) ∧ W'.cell? ⟨xb,3,none⟩ = some (.int .i64 1) ∧ W'.cell? ⟨w.heap.size,1,none⟩ = some (.int .i64 0) ∧ W'.cell? ⟨w.heap.size,4,none⟩ = some (.string ⟨#[97,98,99,100]⟩))
             (first | exact HS6 _ (Zd (Below.refl _ _)) | exact HS6 _ h2b | exact HS6 _ h1b | exact HS7 _ _ h2b _ | exact HS7 _ _ h1b _)
             (first
              | (go_at_call 133;first
               | (with_reducible refine (HA1 _ ?hb).out.mono ?_;(case hb => first | exact h2b | exact Zd (Below.refl _ _));rintro e w' ⟨rfl,h1b⟩;have hcp := HCP w' h1b)
               | (with_reducible refine (HA0 _ ?hb).out.mono ?_;(case hb => first | exact h1b | exact Zd (Below.refl _ _));rintro e w' ⟨rfl,h2b⟩;have hcp := HCP w' h2b)))
            all_goals
             have hT5 : TS w.heap.size ob pb w 3 (w'.setCell ⟨ob,4,none⟩ (.int .u8 99)) := (HT4.out.bel h2b).put hno hobp (by omega) (by rfl);have hX5 : Blk (w'.setCell ⟨ob,4,none⟩ (.int .u8 99)) xb #[.int .i64 2,.int .i64 2,.int .i64 1,.int .i64 1] 154 := (HX4.out.X5 h2b).other (a := ⟨ob,4,none⟩) _ (by show xb ≠ ob;omega)
             go_wp2
             go_roundw
             case rel => exact ⟨x + 1,by omega,by go_num,by (obtain ⟨h⟩ := hx0;obtain ⟨h'⟩ := hy0;subst h;subst h';exact ⟨hT5⟩),⟨hX5⟩⟩
             case measure => simp [iOf];omega
          · have HA1 : ∀ W',Below wr.heap.size wr W' → Zb (Calls Try.prog 133 #[.agg #[.int .i64 2,.int .i64 2,.int .i64 1,.int .i64 1],.int .i64 1,.int .i64 (x : Int),.int .i64 (y : Int)] W' fun e w' => e = .returned (.int .i64 1) ∧ Below wr.heap.size wr w') := by
             subst ex;subst ey
             exact fun W' hb => ⟨(Xq.calls 2 2 1 1 1 1 0 1 W' (by kernel_rfl)).mono (fun e w' (h : _ ∧ _) => And.intro h.1 (hb.trans (h.2.mono hb.size)))⟩
            have HA0 : ∀ W',Below wr.heap.size wr W' → Zb (Calls Try.prog 133 #[.agg #[.int .i64 2,.int .i64 2,.int .i64 1,.int .i64 1],.int .i64 0,.int .i64 (x : Int),.int .i64 (y : Int)] W' fun e w' => e = .returned (.int .i64 1) ∧ Below wr.heap.size wr w') := by
             subst ex;subst ey
             exact fun W' hb => ⟨(Xq.calls 2 2 1 1 0 1 0 1 W' (by kernel_rfl)).mono (fun e w' (h : _ ∧ _) => And.intro h.1 (hb.trans (h.2.mono hb.size)))⟩
            have HT4 : Zb (TS w.heap.size ob pb w 1 wr) := by
             subst ex;subst ey;exact ⟨HT4.out⟩
            have hx0 : Zb (x = 1) := ⟨ex⟩
            have hy0 : Zb (y = 0) := ⟨ey⟩
            clear ex ey
            have hwA : IntKind.i64.wrap 1 = 1 := by kernel_rfl
            have hwB : IntKind.i64.wrap 1 = 1 := by kernel_rfl
            have HCP : ∀ W',Below wr.heap.size wr W' → (Builtin.copy_ #[103,9] 3 #[.slice (some ⟨ob,1,none⟩) 15 15,.string (((ByteArray.mk #[97,98,99,100]).extract 1 4).extract 0 1)]).run Try.prog W' = .ok (.int .i64 1) (W'.setCell ⟨ob,1,none⟩ (.int .u8 98)) := by
             intro W' hb;have ho := (HT4.out.bel hb).o
             have e : ((ByteArray.mk #[97,98,99,100]).extract 1 4).extract 0 1 = ByteArray.mk #[98] := by kernel_rfl
             rw [e];have hc := ho.cell 1 (v := .int .u8 0) rfl
             have hj0 : ∀ j,j < (ByteArray.mk #[98]).size → j = 0 := fun j hj => Nat.lt_one_iff.mp hj
             refine run_copy_string W' 103 9 3 5 ob 1 15 15 (ByteArray.mk #[98]) Try.underlying103 size5 (by decide) ?_ (fun j hj => ho.frozen _);intro j hj;obtain rfl := hj0 j hj;show (W'.cell? ⟨ob,1,none⟩).isSome = true;rw [hc];rfl
            go_wp2
            go_region_held3 (fun W' => W'.cell? ⟨xb,0,none⟩ = some (.int .i64 2) ∧ W'.cell? ⟨xb,1,none⟩ = some (.int .i64 2) ∧ W'.cell? ⟨xb,2,none⟩ = some (.int .i64 1) ∧ W'.cell? ⟨xb,3,none⟩ = some (.int .i64 1) ∧ W'.cell? ⟨w.heap.size,1,none⟩ = some (.int .i64 0) ∧ W'.cell? ⟨w.heap.size,4,none⟩ = some (.string ⟨#[97,98,99,100]⟩))
             (first | exact HS6 _ (Zd (Below.refl _ _)) | exact HS6 _ h2b | exact HS6 _ h1b | exact HS7 _ _ h2b _ | exact HS7 _ _ h1b _)
             (first
              | (go_at_call 133;first
               | (with_reducible refine (HA1 _ ?hb).out.mono ?_;(case hb => first | exact h2b | exact Zd (Below.refl _ _));rintro e w' ⟨rfl,h1b⟩;have hcp := HCP w' h1b)
               | (with_reducible refine (HA0 _ ?hb).out.mono ?_;(case hb => first | exact h1b | exact Zd (Below.refl _ _));rintro e w' ⟨rfl,h2b⟩;have hcp := HCP w' h2b)))
            all_goals
             have hT5 : TS w.heap.size ob pb w 2 (w'.setCell ⟨ob,1,none⟩ (.int .u8 98)) := (HT4.out.bel h2b).put hno hobp (by omega) (by rfl);have hX5 : Blk (w'.setCell ⟨ob,1,none⟩ (.int .u8 98)) xb #[.int .i64 2,.int .i64 2,.int .i64 1,.int .i64 1] 154 := (HX4.out.X5 h2b).other (a := ⟨ob,1,none⟩) _ (by show xb ≠ ob;omega)
             go_wp2
             go_roundw
             case rel => exact ⟨x + 1,by omega,by go_num,by (obtain ⟨h⟩ := hx0;obtain ⟨h'⟩ := hy0;subst h;subst h';exact ⟨hT5⟩),⟨hX5⟩⟩
             case measure => simp [iOf];omega
          · have HA1 : ∀ W',Below wr.heap.size wr W' → Zb (Calls Try.prog 133 #[.agg #[.int .i64 2,.int .i64 2,.int .i64 1,.int .i64 1],.int .i64 1,.int .i64 (x : Int),.int .i64 (y : Int)] W' fun e w' => e = .returned (.int .i64 5) ∧ Below wr.heap.size wr w') := by
             subst ex;subst ey
             exact fun W' hb => ⟨(Xq.calls 2 2 1 1 1 1 1 5 W' (by kernel_rfl)).mono (fun e w' (h : _ ∧ _) => And.intro h.1 (hb.trans (h.2.mono hb.size)))⟩
            have HA0 : ∀ W',Below wr.heap.size wr W' → Zb (Calls Try.prog 133 #[.agg #[.int .i64 2,.int .i64 2,.int .i64 1,.int .i64 1],.int .i64 0,.int .i64 (x : Int),.int .i64 (y : Int)] W' fun e w' => e = .returned (.int .i64 3) ∧ Below wr.heap.size wr w') := by
             subst ex;subst ey
             exact fun W' hb => ⟨(Xq.calls 2 2 1 1 0 1 1 3 W' (by kernel_rfl)).mono (fun e w' (h : _ ∧ _) => And.intro h.1 (hb.trans (h.2.mono hb.size)))⟩
            have HT4 : Zb (TS w.heap.size ob pb w 3 wr) := by
             subst ex;subst ey;exact ⟨HT4.out⟩
            have hx0 : Zb (x = 1) := ⟨ex⟩
            have hy0 : Zb (y = 1) := ⟨ey⟩
            clear ex ey
            have hwA : IntKind.i64.wrap 5 = 5 := by kernel_rfl
            have hwB : IntKind.i64.wrap 3 = 3 := by kernel_rfl
            have HCP : ∀ W',Below wr.heap.size wr W' → (Builtin.copy_ #[103,9] 3 #[.slice (some ⟨ob,5,none⟩) 11 11,.string (((ByteArray.mk #[97,98,99,100]).extract 3 4).extract 0 1)]).run Try.prog W' = .ok (.int .i64 1) (W'.setCell ⟨ob,5,none⟩ (.int .u8 100)) := by
             intro W' hb;have ho := (HT4.out.bel hb).o
             have e : ((ByteArray.mk #[97,98,99,100]).extract 3 4).extract 0 1 = ByteArray.mk #[100] := by kernel_rfl
             rw [e];have hc := ho.cell 5 (v := .int .u8 0) rfl
             have hj0 : ∀ j,j < (ByteArray.mk #[100]).size → j = 0 := fun j hj => Nat.lt_one_iff.mp hj
             refine run_copy_string W' 103 9 3 5 ob 5 11 11 (ByteArray.mk #[100]) Try.underlying103 size5 (by decide) ?_ (fun j hj => ho.frozen _);intro j hj;obtain rfl := hj0 j hj;show (W'.cell? ⟨ob,5,none⟩).isSome = true;rw [hc];rfl
            go_wp2
            go_region_held3 (fun W' => W'.cell? ⟨xb,0,none⟩ = some (.int .i64 2) ∧ W'.cell? ⟨xb,1,none⟩ = some (.int .i64 2) ∧ W'.cell? ⟨xb,2,none⟩ = some (.int .i64 1) ∧ W'.cell? ⟨xb,3,none⟩ = some (.int .i64 1) ∧ W'.cell? ⟨w.heap.size,1,none⟩ = some (.int .i64 0) ∧ W'.cell? ⟨w.heap.size,4,none⟩ = some (.string ⟨#[97,98,99,100]⟩))
             (first | exact HS6 _ (Zd (Below.refl _ _)) | exact HS6 _ h2b | exact HS6 _ h1b | exact HS7 _ _ h2b _ | exact HS7 _ _ h1b _)
             (first
              | (go_at_call 133;first
               | (with_reducible refine (HA1 _ ?hb).out.mono ?_;(case hb => first | exact h2b | exact Zd (Below.refl _ _));rintro e w' ⟨rfl,h1b⟩;have hcp := HCP w' h1b)
               | (with_reducible refine (HA0 _ ?hb).out.mono ?_;(case hb => first | exact h1b | exact Zd (Below.refl _ _));rintro e w' ⟨rfl,h2b⟩;have hcp := HCP w' h2b)))
            all_goals
             have hT5 : TS w.heap.size ob pb w 4 (w'.setCell ⟨ob,5,none⟩ (.int .u8 100)) := (HT4.out.bel h2b).put hno hobp (by omega) (by rfl);have hX5 : Blk (w'.setCell ⟨ob,5,none⟩ (.int .u8 100)) xb #[.int .i64 2,.int .i64 2,.int .i64 1,.int .i64 1] 154 := (HX4.out.X5 h2b).other (a := ⟨ob,5,none⟩) _ (by show xb ≠ ob;omega)
             go_wp2
             go_roundw
             case rel => exact ⟨x + 1,by omega,by go_num,by (obtain ⟨h⟩ := hx0;obtain ⟨h'⟩ := hy0;subst h;subst h';exact ⟨hT5⟩),⟨hX5⟩⟩
             case measure => simp [iOf];omega
        · go_wp2
          go_roundw
          case rel => exact ⟨y + 1,by omega,by go_num,HT4,HX4⟩
          case measure => simp [iOf];omega
     · have HS5 : ∀ W',Below wr.heap.size wr W' → W'.cell? ⟨xb,0,none⟩ = some (.int .i64 2) ∧ W'.cell? ⟨xb,1,none⟩ = some (.int .i64 2) ∧ W'.cell? ⟨xb,2,none⟩ = some (.int .i64 1) ∧ W'.cell? ⟨xb,3,none⟩ = some (.int .i64 1) ∧ W'.cell? ⟨w.heap.size,1,none⟩ = some (.int .i64 0) := by
        intro W' hb;have hx := HX3.out.X5 hb;have hp := (HT3.out.bel hb).p;exact ⟨hx.cell 0 rfl,hx.cell 1 rfl,hx.cell 2 rfl,hx.cell 3 rfl,hp.cell 1 rfl⟩
       have HZ0 := fun (W' : World) (hb : Below wr.heap.size wr W') => Zb.mk ((Xx.calls 2 2 1 1 0 4 W' (by kernel_rfl)).mono (fun e w' (h : _ ∧ _) => And.intro h.1 (hb.trans (h.2.mono hb.size))))
       have HZ1 := fun (W' : World) (hb : Below wr.heap.size wr W') => Zb.mk ((Xx.calls 2 2 1 1 1 16 W' (by kernel_rfl)).mono (fun e w' (h : _ ∧ _) => And.intro h.1 (hb.trans (h.2.mono hb.size))))
       go_wp2
       go_region_held3 (fun W' => W'.cell? ⟨xb,0,none⟩ = some (.int .i64 2) ∧ W'.cell? ⟨xb,1,none⟩ = some (.int .i64 2) ∧ W'.cell? ⟨xb,2,none⟩ = some (.int .i64 1) ∧ W'.cell? ⟨xb,3,none⟩ = some (.int .i64 1) ∧ W'.cell? ⟨w.heap.size,1,none⟩ = some (.int .i64 0))
        (first | exact HS5 _ (Zd (Below.refl _ _)) | exact HS5 _ h2b | exact HS5 _ h1b)
        (first
         | (go_at_call 132;first
          | (with_reducible refine (HZ0 _ ?hb).out.mono ?_;(case hb => first | exact h2b | exact Zd (Below.refl _ _));rintro e w' ⟨rfl,h1b⟩)
          | (with_reducible refine (HZ1 _ ?hb).out.mono ?_;(case hb => first | exact h1b | exact Zd (Below.refl _ _));rintro e w' ⟨rfl,h2b⟩)))
       all_goals
        have hT5 : TS w.heap.size ob pb w 4 w' := HT3.out.bel h2b
        go_wp2
        go_roundw
        case rel => exact ⟨1,by omega,by omega,by go_num,⟨_,rfl⟩,⟨_,rfl⟩,fun h => absurd h (by decide),⟨hT5⟩⟩
        case measure => simp [iOf]
  · have hp1 := HT1.out.p.cell 1 (v := .int .i64 0) rfl
    go_wp2
    have HR1 := Zb.mk HT1.out.r;have HP1 := Zb.mk HT1.out.p;have HO1 := HT1.out.o;have HB1 := Zb.mk HT1.out.b
    have HCV : ∀ W,Blk W ob (outK 4) 5 → (convert 103 9 (.slice (some ⟨ob,0,none⟩) 16 16)).run Try.prog W = .ok (.string ⟨#[97,98,0,0,99,100,0,0,0,0,0,0,0,0,0,0]⟩) W := by
     intro W hW;refine run_convert_bytes_back W 103 9 5 ⟨ob,0,none⟩ 16 [97,98,0,0,99,100,0,0,0,0,0,0,0,0,0,0] Try.underlying103 Try.underlying5 Try.underlying9 (fun j hj => ?_);have hj' : j < 16 := hj
     have hz : (⟨ob,0,none⟩ : Addr).add j = ⟨ob,j,none⟩ := by unfold Addr.add;split <;> simp_all
     rw [hz];refine hW.cell j ?_
     rcases j with _ | _ | _ | _ | _ | _ | _ | _ | _ | _ | _ | _ | _ | _ | _ | _ | j <;> first | rfl | omega
    have hcv1 : ∀ n,(convert 103 9 (.slice (some ⟨ob,0,none⟩) 16 16)).run Try.prog (wr.drewN n) = .ok (.string ⟨#[97,98,0,0,99,100,0,0,0,0,0,0,0,0,0,0]⟩) (wr.drewN n) := fun n => HCV _ (HO1.drewN n)
    have hcv0 := HCV _ HO1.drew;have hcv2 := HCV wr.drew HO1.drew;have hcv3 := HCV ((wr.setCell ⟨w.heap.size,1,none⟩ (.int .i64 1)).drew) ((HO1.other (a := ⟨w.heap.size,1,none⟩) _ (by show ob ≠ w.heap.size;omega)).drew);have HCV' := Zb.mk HCV;clear HCV;have d1 := HP1.out.cell 1 (v := .int .i64 0) rfl;have e1 := HP1.out.frozen 1;have d1' := HP1.out.drew.cell 1 (v := .int .i64 0) rfl;have e1' := HP1.out.drew.frozen 1;have d4 := HP1.out.cell 4 (v := .string ⟨#[97,98,99,100]⟩) rfl;have e4 := HP1.out.frozen 4;clear HO1
    go_region
    have HPf : Blk ((wr.setCell ⟨w.heap.size,1,none⟩ (.int .i64 1)).setCell ⟨w.heap.size,4,none⟩ (.string ⟨#[97,98,0,0,99,100,0,0,0,0,0,0,0,0,0,0]⟩)).drew w.heap.size #[.int .i64 1,.int .i64 1,.int .i64 2,.int .i64 2,.string ⟨#[97,98,0,0,99,100,0,0,0,0,0,0,0,0,0,0]⟩] 49 := ((HP1.out.set 1 (.int .i64 1)).set 4 (.string ⟨#[97,98,0,0,99,100,0,0,0,0,0,0,0,0,0,0]⟩)).drew;have HRf : Blk ((wr.setCell ⟨w.heap.size,1,none⟩ (.int .i64 1)).setCell ⟨w.heap.size,4,none⟩ (.string ⟨#[97,98,0,0,99,100,0,0,0,0,0,0,0,0,0,0]⟩)).drew (w.heap.size + 1) #[.int .i64 0,.int .i64 0,.int .i64 0,.int .i64 0,.string ⟨#[]⟩] 49 := ((HR1.out.other (a := ⟨w.heap.size,1,none⟩) _ (by show w.heap.size + 1 ≠ w.heap.size;omega)).other (a := ⟨w.heap.size,4,none⟩) _ (by show w.heap.size + 1 ≠ w.heap.size;omega)).drew;have HBf := Zb.mk (show Below w.heap.size w ((wr.setCell ⟨w.heap.size,1,none⟩ (.int .i64 1)).setCell ⟨w.heap.size,4,none⟩ (.string ⟨#[97,98,0,0,99,100,0,0,0,0,0,0,0,0,0,0]⟩)).drew from Zd ((HB1.out.setCell (p := ⟨w.heap.size,1,none⟩) (Nat.le_refl _) _).setCell (p := ⟨w.heap.size,4,none⟩) (Nat.le_refl _) _));generalize ((wr.setCell ⟨w.heap.size,1,none⟩ (.int .i64 1)).setCell ⟨w.heap.size,4,none⟩ (.string ⟨#[97,98,0,0,99,100,0,0,0,0,0,0,0,0,0,0]⟩)).drew = w3 at HPf HRf HBf ⊢;clear d1 e1 d1' e1' d4 e4 hcv0 hcv1 hcv2 hcv3 HCV' HP1 HR1 HB1;have p0 := HPf.cell 0 (v := .int .i64 1) rfl;have r0 := HRf.cell 0 (v := .int .i64 0) rfl;have q0 := HRf.frozen 0;have p1 := HPf.cell 1 (v := .int .i64 1) rfl;have r1 := HRf.cell 1 (v := .int .i64 0) rfl;have q1 := HRf.frozen 1;have p2 := HPf.cell 2 (v := .int .i64 2) rfl;have r2 := HRf.cell 2 (v := .int .i64 0) rfl;have q2 := HRf.frozen 2;have p3 := HPf.cell 3 (v := .int .i64 2) rfl;have r3 := HRf.cell 3 (v := .int .i64 0) rfl;have q3 := HRf.frozen 3;have p4 := HPf.cell 4 (v := .string ⟨#[97,98,0,0,99,100,0,0,0,0,0,0,0,0,0,0]⟩) rfl;have r4 := HRf.cell 4 (v := .string ⟨#[]⟩) rfl;have q4 := HRf.frozen 4;have s0 := (HRf.set 0 (.int .i64 1)).cell 0 (v := .int .i64 1) rfl;have s1 := ((HRf.set 0 (.int .i64 1)).set 1 (.int .i64 1)).cell 1 (v := .int .i64 1) rfl;have s2 := (((HRf.set 0 (.int .i64 1)).set 1 (.int .i64 1)).set 2 (.int .i64 2)).cell 2 (v := .int .i64 2) rfl;have s3 := ((((HRf.set 0 (.int .i64 1)).set 1 (.int .i64 1)).set 2 (.int .i64 2)).set 3 (.int .i64 2)).cell 3 (v := .int .i64 2) rfl;have s4 := (((((HRf.set 0 (.int .i64 1)).set 1 (.int .i64 1)).set 2 (.int .i64 2)).set 3 (.int .i64 2)).set 4 (.string ⟨#[97,98,0,0,99,100,0,0,0,0,0,0,0,0,0,0]⟩)).cell 4 (v := .string ⟨#[97,98,0,0,99,100,0,0,0,0,0,0,0,0,0,0]⟩) rfl;have HBe := Zb.mk (((((HBf.out.setCell (p := ⟨w.heap.size + 1,0,none⟩) (Nat.le_succ _) (.int .i64 1)).setCell (p := ⟨w.heap.size + 1,1,none⟩) (Nat.le_succ _) (.int .i64 1)).setCell (p := ⟨w.heap.size + 1,2,none⟩) (Nat.le_succ _) (.int .i64 2)).setCell (p := ⟨w.heap.size + 1,3,none⟩) (Nat.le_succ _) (.int .i64 2)).setCell (p := ⟨w.heap.size + 1,4,none⟩) (Nat.le_succ _) (.string ⟨#[97,98,0,0,99,100,0,0,0,0,0,0,0,0,0,0]⟩));clear HPf HRf HBf
    go_wp2
    refine bodyPost_ret (v := .agg #[.int .i64 1,.int .i64 1,.int .i64 2,.int .i64 2,.string ⟨#[97,98,0,0,99,100,0,0,0,0,0,0,0,0,0,0]⟩]) (by simp [results,Try.results87,go_sem,s0,s1,s2,s3,s4]) rfl ⟨rfl,HBe.out⟩
end Go.Proofs.Ythbajahklnpkcaa.PA

namespace Go.Proofs.Ythbajahklnpkcaa.PA
open Go.RowKit Go.Proofs.YthbajahklnpkcaaW.PrintWords Go.Proofs.YthbajahklnpkcaaW.PrintLast Go.Proofs.YthbajahklnpkcaaW.PrintMore
attribute [local go_sem] ZK ZL ZR ZU ZD ZC ZM ZN
set_option linter.unusedVariables false
set_option linter.unusedSimpArgs false
def QA.f (a0 : Int) (a1 : Int) (a2 : Int) (a3 : Int) : Option (Bool) := (Xu.f a0).bind fun t238 => (if t238 = true then ((ZV.f a1).bind fun t239 => (if t239 = true then (if a2 ≥ 1 then (if a2 ≤ 64 then (if a3 ≥ 1 then (some (decide (a3 ≤ 64))) else (some false)) else (some false)) else (some false)) else (some false))) else (some false))
set_option maxHeartbeats 8000000 in
set_option maxRecDepth 100000 in
theorem QA.calls (a0 : Int) (a1 : Int) (a2 : Int) (a3 : Int) (r : Bool) (w : World) (h : QA.f a0 a1 a2 a3 = some r) :
 Calls Try.prog 83 #[.int .i64 a0,.int .i64 a1,.int .i64 a2,.int .i64 a3] w fun e w' => e = .returned (.bool r) ∧ Drawn0 w w' := by
 have H : ((Xu.f a0).bind fun t238 => (if t238 = true then ((ZV.f a1).bind fun t239 => (if t239 = true then (if a2 ≥ 1 then (if a2 ≤ 64 then (if a3 ≥ 1 then (some (decide (a3 ≤ 64))) else (some false)) else (some false)) else (some false)) else (some false))) else (some false))) = some r := h;clear h;replace H := Option.bind_eq_some_iff.mp H;obtain ⟨t238,A50,H⟩ := H;replace H : (if t238 = true then ((ZV.f a1).bind fun t239 => (if t239 = true then (if a2 ≥ 1 then (if a2 ≤ 64 then (if a3 ≥ 1 then (some (decide (a3 ≤ 64))) else (some false)) else (some false)) else (some false)) else (some false))) else (some false)) = some r := H;have A5 := Zb.mk A50;clear A50
 by_cases c6 : t238 = true
 · subst c6
   have H1 : ((ZV.f a1).bind fun t239 => (if t239 = true then (if a2 ≥ 1 then (if a2 ≤ 64 then (if a3 ≥ 1 then (some (decide (a3 ≤ 64))) else (some false)) else (some false)) else (some false)) else (some false))) = some r := by rw [if_pos rfl] at H;exact H
   clear H;have H := H1;clear H1;replace H := Option.bind_eq_some_iff.mp H;obtain ⟨t239,A70,H⟩ := H;replace H : (if t239 = true then (if a2 ≥ 1 then (if a2 ≤ 64 then (if a3 ≥ 1 then (some (decide (a3 ≤ 64))) else (some false)) else (some false)) else (some false)) else (some false)) = some r := H;have A7 := Zb.mk A70;clear A70
   by_cases c8 : t239 = true
   · subst c8
     have H1 : (if a2 ≥ 1 then (if a2 ≤ 64 then (if a3 ≥ 1 then (some (decide (a3 ≤ 64))) else (some false)) else (some false)) else (some false)) = some r := by rw [if_pos rfl] at H;exact H
     clear H;have H := H1;clear H1
     by_cases c9 : a2 ≥ 1
     · rw [if_pos c9] at H
       have c9b0 : decide (1 ≤ a2) = true := decide_eq_true c9;clear c9
       by_cases c10 : a2 ≤ 64
       · rw [if_pos c10] at H
         have c10b0 : decide (a2 ≤ 64) = true := decide_eq_true c10;clear c10
         by_cases c11 : a3 ≥ 1
         · rw [if_pos c11] at H
           have c11b0 : decide (1 ≤ a3) = true := decide_eq_true c11;clear c11;obtain rfl := Option.some.inj H
           go_enter Try.func83,Try.ntmps83
           go_wp2_with (first | ((with_reducible refine Zw (f := 115) rfl ?_);refine ZP (some 10) rfl rfl Try.func115 (by kernel_rfl) rfl #[.int .i64 a0] rfl (by (try simp only [List.map_toArray,List.map_cons,List.map_nil]);first | done | rfl | (simp only [List.length_drop,List.length_take];rfl)) ?_;(with_reducible refine (Xu.calls a0 true _ A5.out).mono ?_);rintro e w' ⟨rfl,⟨nd,rfl⟩⟩;refine ⟨_,rfl,?_⟩) | (go_at_call 95;(with_reducible refine (ZV.calls a1 true _ A7.out).mono ?_);rintro e w' ⟨rfl,⟨nd,rfl⟩⟩))
           go_ret;exact ⟨by first | rfl | (simp;done) | (simp [*];done),by repeat (first | exact Drawn0.refl _ | apply Drawn0.step)⟩
         · rw [if_neg c11] at H
           have c11b0 : decide (1 ≤ a3) = false := decide_eq_false c11;clear c11;obtain rfl := Option.some.inj H
           go_enter Try.func83,Try.ntmps83
           go_wp2_with (first | ((with_reducible refine Zw (f := 115) rfl ?_);refine ZP (some 10) rfl rfl Try.func115 (by kernel_rfl) rfl #[.int .i64 a0] rfl (by (try simp only [List.map_toArray,List.map_cons,List.map_nil]);first | done | rfl | (simp only [List.length_drop,List.length_take];rfl)) ?_;(with_reducible refine (Xu.calls a0 true _ A5.out).mono ?_);rintro e w' ⟨rfl,⟨nd,rfl⟩⟩;refine ⟨_,rfl,?_⟩) | (go_at_call 95;(with_reducible refine (ZV.calls a1 true _ A7.out).mono ?_);rintro e w' ⟨rfl,⟨nd,rfl⟩⟩))
           go_ret;exact ⟨by first | rfl | (simp;done) | (simp [*];done),by repeat (first | exact Drawn0.refl _ | apply Drawn0.step)⟩
       · rw [if_neg c10] at H
         have c10b0 : decide (a2 ≤ 64) = false := decide_eq_false c10;clear c10;obtain rfl := Option.some.inj H
         go_enter Try.func83,Try.ntmps83
         go_wp2_with (first | ((with_reducible refine Zw (f := 115) rfl ?_);refine ZP (some 10) rfl rfl Try.func115 (by kernel_rfl) rfl #[.int .i64 a0] rfl (by (try simp only [List.map_toArray,List.map_cons,List.map_nil]);first | done | rfl | (simp only [List.length_drop,List.length_take];rfl)) ?_;(with_reducible refine (Xu.calls a0 true _ A5.out).mono ?_);rintro e w' ⟨rfl,⟨nd,rfl⟩⟩;refine ⟨_,rfl,?_⟩) | (go_at_call 95;(with_reducible refine (ZV.calls a1 true _ A7.out).mono ?_);rintro e w' ⟨rfl,⟨nd,rfl⟩⟩))
         go_ret;exact ⟨by first | rfl | (simp;done) | (simp [*];done),by repeat (first | exact Drawn0.refl _ | apply Drawn0.step)⟩
     · rw [if_neg c9] at H
       have c9b0 : decide (1 ≤ a2) = false := decide_eq_false c9;clear c9;obtain rfl := Option.some.inj H
       go_enter Try.func83,Try.ntmps83
       go_wp2_with (first | ((with_reducible refine Zw (f := 115) rfl ?_);refine ZP (some 10) rfl rfl Try.func115 (by kernel_rfl) rfl #[.int .i64 a0] rfl (by (try simp only [List.map_toArray,List.map_cons,List.map_nil]);first | done | rfl | (simp only [List.length_drop,List.length_take];rfl)) ?_;(with_reducible refine (Xu.calls a0 true _ A5.out).mono ?_);rintro e w' ⟨rfl,⟨nd,rfl⟩⟩;refine ⟨_,rfl,?_⟩) | (go_at_call 95;(with_reducible refine (ZV.calls a1 true _ A7.out).mono ?_);rintro e w' ⟨rfl,⟨nd,rfl⟩⟩))
       go_ret;exact ⟨by first | rfl | (simp;done) | (simp [*];done),by repeat (first | exact Drawn0.refl _ | apply Drawn0.step)⟩
   · replace c8 := Bool.eq_false_iff.mpr c8
     subst c8
     have H1 : (some false) = some r := by rw [if_neg (show ¬ (false = true) by decide)] at H;exact H
     clear H;have H := H1;clear H1;obtain rfl := Option.some.inj H
     go_enter Try.func83,Try.ntmps83
     go_wp2_with (first | ((with_reducible refine Zw (f := 115) rfl ?_);refine ZP (some 10) rfl rfl Try.func115 (by kernel_rfl) rfl #[.int .i64 a0] rfl (by (try simp only [List.map_toArray,List.map_cons,List.map_nil]);first | done | rfl | (simp only [List.length_drop,List.length_take];rfl)) ?_;(with_reducible refine (Xu.calls a0 true _ A5.out).mono ?_);rintro e w' ⟨rfl,⟨nd,rfl⟩⟩;refine ⟨_,rfl,?_⟩) | (go_at_call 95;(with_reducible refine (ZV.calls a1 false _ A7.out).mono ?_);rintro e w' ⟨rfl,⟨nd,rfl⟩⟩))
     go_ret;exact ⟨by first | rfl | (simp;done) | (simp [*];done),by repeat (first | exact Drawn0.refl _ | apply Drawn0.step)⟩
 · replace c6 := Bool.eq_false_iff.mpr c6
   subst c6
   have H1 : (some false) = some r := by rw [if_neg (show ¬ (false = true) by decide)] at H;exact H
   clear H;have H := H1;clear H1;obtain rfl := Option.some.inj H
   go_enter Try.func83,Try.ntmps83
   go_wp2_with (first | ((with_reducible refine Zw (f := 115) rfl ?_);refine ZP (some 10) rfl rfl Try.func115 (by kernel_rfl) rfl #[.int .i64 a0] rfl (by (try simp only [List.map_toArray,List.map_cons,List.map_nil]);first | done | rfl | (simp only [List.length_drop,List.length_take];rfl)) ?_;(with_reducible refine (Xu.calls a0 false _ A5.out).mono ?_);rintro e w' ⟨rfl,⟨nd,rfl⟩⟩;refine ⟨_,rfl,?_⟩))
   go_ret;exact ⟨by first | rfl | (simp;done) | (simp [*];done),by repeat (first | exact Drawn0.refl _ | apply Drawn0.step)⟩
end Go.Proofs.Ythbajahklnpkcaa.PA

namespace Go.Proofs.Ythbajahklnpkcaa.PA
open Go.RowKit Go.Shelf Go.Proofs.YthbajahklnpkcaaW.PrintWords Go.Proofs.YthbajahklnpkcaaW.PrintLast Go.Proofs.YthbajahklnpkcaaW.PrintMore
set_option linter.unusedVariables false
set_option linter.unusedSimpArgs false
set_option maxRecDepth 100000 in
set_option maxHeartbeats 2000000 in
theorem valid_awake (w : World) : Calls Try.prog 33 #[.agg #[.int .i64 1,.int .i64 0,.int .i64 2,.int .i64 2,.string ⟨#[97,98,99,100]⟩]] w fun e w' => e = .returned (.bool true) ∧ Below w.heap.size w w' := by
 have HB := Blk.new w #[.int .i64 1,.int .i64 0,.int .i64 2,.int .i64 2,.string ⟨#[97,98,99,100]⟩] 49;have hb0 : Below w.heap.size w (w.alloc (.cells #[.int .i64 1,.int .i64 0,.int .i64 2,.int .i64 2,.string ⟨#[97,98,99,100]⟩] 49)) := (Below.refl _ w).alloc (Nat.le_refl _) _
 obtain ⟨wa,hwa⟩ : ∃ wa,w.alloc (.cells #[.int .i64 1,.int .i64 0,.int .i64 2,.int .i64 2,.string ⟨#[97,98,99,100]⟩] 49) = wa := ⟨_,rfl⟩
 rw [hwa] at HB hb0
 have HC : ∀ W',Below wa.heap.size wa W' → W'.cell? ⟨w.heap.size,0,none⟩ = some (.int .i64 1) ∧ W'.cell? ⟨w.heap.size,1,none⟩ = some (.int .i64 0) ∧ W'.cell? ⟨w.heap.size,2,none⟩ = some (.int .i64 2) ∧ W'.cell? ⟨w.heap.size,3,none⟩ = some (.int .i64 2) ∧ W'.cell? ⟨w.heap.size,4,none⟩ = some (.string ⟨#[97,98,99,100]⟩) := by
  intro W' hb;have h := HB.X5 hb;exact ⟨h.cell 0 rfl,h.cell 1 rfl,h.cell 2 rfl,h.cell 3 rfl,h.cell 4 rfl⟩
 have HR : ∀ W,Below wa.heap.size wa W → Zb (Calls Try.prog 83 #[.int .i64 1,.int .i64 0,.int .i64 2,.int .i64 2] W fun e w' => e = .returned (.bool true) ∧ Below wa.heap.size wa w') := fun W hb => ⟨(QA.calls 1 0 2 2 true W (by kernel_rfl)).mono (fun e w' h => ⟨h.1,by obtain ⟨n,rfl⟩ := h.2;exact Za hb n⟩)⟩
 have HS : ∀ W,Below wa.heap.size wa W → Zb (Calls Try.prog 84 #[.int .i64 1,.int .i64 0,.int .i64 2,.int .i64 2] W fun e w' => e = .returned (.int .i64 4) ∧ Below wa.heap.size wa w') := fun W hb => ⟨(Qs.calls 1 0 2 2 4 W (by kernel_rfl)).mono (fun e w' h => ⟨h.1,hb.trans (h.2.mono hb.size)⟩)⟩
 have HB0 := Zb.mk hb0;clear hb0
 go_enter Try.func33,Try.ntmps33
 go_wp2
 go_region_held3 (fun W' => W'.cell? ⟨w.heap.size,0,none⟩ = some (.int .i64 1) ∧ W'.cell? ⟨w.heap.size,1,none⟩ = some (.int .i64 0) ∧ W'.cell? ⟨w.heap.size,2,none⟩ = some (.int .i64 2) ∧ W'.cell? ⟨w.heap.size,3,none⟩ = some (.int .i64 2) ∧ W'.cell? ⟨w.heap.size,4,none⟩ = some (.string ⟨#[97,98,99,100]⟩))
  (first | exact HC _ h2b | exact HC _ h1b | exact HC _ (Zd (Below.refl _ _)))
  (first
   | (go_at_call 83;with_reducible refine (HR _ (Zd (Below.refl _ _))).out.mono ?_;rintro e w' ⟨rfl,h1b⟩)
   | (go_at_call 84;with_reducible refine (HS _ h1b).out.mono ?_;rintro e w' ⟨rfl,h2b⟩))
 all_goals
  obtain ⟨c0,c1,c2,c3,c4⟩ := HC _ h2b
  go_wp2
  go_quiet (fail)
  go_wp2
  go_ret;exact ⟨rfl,HB0.out.trans ((Za h2b _).mono HB0.out.size)⟩
end Go.Proofs.Ythbajahklnpkcaa.PA

namespace Go.Proofs.Ythbajahklnpkcaa.PA
open Go.RowKit Go.Shelf Go.Proofs.YthbajahklnpkcaaW.PrintWords Go.Proofs.YthbajahklnpkcaaW.PrintLast Go.Proofs.YthbajahklnpkcaaW.PrintMore
set_option linter.unusedVariables false
def Xy.f (a0 a1 a2 a3 : Int) (s : ByteArray) (m : Int) : Option (Int × Int × Int × Int × ByteArray) :=
 if a0 = 1 ∧ a1 = 0 ∧ a2 = 2 ∧ a3 = 2 ∧ s = ⟨#[97,98,99,100]⟩ ∧ m = 1 then some (1,1,2,2,⟨#[97,98,0,0,99,100,0,0,0,0,0,0,0,0,0,0]⟩) else none
theorem Xy.calls (a0 a1 a2 a3 : Int) (s : ByteArray) (m : Int) (r1 r2 r3 r4 : Int) (r5 : ByteArray) (w : World) (h : Xy.f a0 a1 a2 a3 s m = some (r1,r2,r3,r4,r5)) :
 Calls Try.prog 87 #[.agg #[.int .i64 a0,.int .i64 a1,.int .i64 a2,.int .i64 a3,.string s],.int .i64 m] w fun e w' => e = .returned (.agg #[.int .i64 r1,.int .i64 r2,.int .i64 r3,.int .i64 r4,.string r5]) ∧ Below w.heap.size w w' := by
 unfold Xy.f at h;split at h
 case isTrue hc =>
  obtain ⟨rfl,rfl,rfl,rfl,rfl,rfl⟩ := hc
  cases h
  exact turned_awake w
 case isFalse => cases h
def XN.f (a0 a1 a2 a3 : Int) (s : ByteArray) : Option Bool :=
 if a0 = 1 ∧ a1 = 0 ∧ a2 = 2 ∧ a3 = 2 ∧ s = ⟨#[97,98,99,100]⟩ then some true else none
theorem XN.calls (a0 a1 a2 a3 : Int) (s : ByteArray) (r : Bool) (w : World) (h : XN.f a0 a1 a2 a3 s = some r) :
 Calls Try.prog 33 #[.agg #[.int .i64 a0,.int .i64 a1,.int .i64 a2,.int .i64 a3,.string s]] w fun e w' => e = .returned (.bool r) ∧ Below w.heap.size w w' := by
 unfold XN.f at h;split at h
 case isTrue hc =>
  obtain ⟨rfl,rfl,rfl,rfl,rfl⟩ := hc
  cases h
  exact valid_awake w
 case isFalse => cases h
end Go.Proofs.Ythbajahklnpkcaa.PA

namespace Go.Proofs.Ythbajahklnpkcaa.PA
open Go.RowKit Go.Proofs.YthbajahklnpkcaaW.PrintWords Go.Proofs.YthbajahklnpkcaaW.PrintLast Go.Proofs.YthbajahklnpkcaaW.PrintMore
attribute [local go_sem] ZK ZL ZR ZU ZD ZC ZM ZN
set_option linter.unusedVariables false
set_option linter.unusedSimpArgs false
end Go.Proofs.Ythbajahklnpkcaa.PA

namespace Go.Proofs.Ythbajahklnpkcaa.PA
open Go.RowKit Go.Proofs.YthbajahklnpkcaaW.PrintWords Go.Proofs.YthbajahklnpkcaaW.PrintLast Go.Proofs.YthbajahklnpkcaaW.PrintMore
attribute [local go_sem] ZK ZL ZR ZU ZD ZC ZM ZN
set_option linter.unusedVariables false
set_option linter.unusedSimpArgs false
end Go.Proofs.Ythbajahklnpkcaa.PA

namespace Go.Proofs.Ythbajahklnpkcaa.PA
open Go.RowKit Go.Proofs.YthbajahklnpkcaaW.PrintWords Go.Proofs.YthbajahklnpkcaaW.PrintLast Go.Proofs.YthbajahklnpkcaaW.PrintMore
attribute [local go_sem] ZK ZL ZR ZU ZD ZC ZM ZN
set_option linter.unusedVariables false
set_option linter.unusedSimpArgs false
def Xo.f (a0_0 : Int) (a0_1 : Int) (a0_2 : Int) (a0_3 : Int) (a0_4 : ByteArray) (a1 : Int) : Option (Int × Int × Int × Int × ByteArray × Int) := (XN.f a0_0 a0_1 a0_2 a0_3 a0_4).bind fun t244 => (if t244 = true then ((ZV.f a1).bind fun t245 => (if t245 = true then ((Xy.f a0_0 a0_1 a0_2 a0_3 a0_4 a1).bind fun bt246 => (some (bt246.1,bt246.2.1,bt246.2.2.1,bt246.2.2.2.1,bt246.2.2.2.2,0))) else (some (0,0,0,0,(⟨#[]⟩ : ByteArray),7)))) else (some (0,0,0,0,(⟨#[]⟩ : ByteArray),1)))
set_option maxHeartbeats 8000000 in
set_option maxRecDepth 100000 in
theorem Xo.calls (a0_0 : Int) (a0_1 : Int) (a0_2 : Int) (a0_3 : Int) (a0_4 : ByteArray) (a1 : Int) (r1 : Int) (r2 : Int) (r3 : Int) (r4 : Int) (r5 : ByteArray) (r6 : Int) (w : World) (h : Xo.f a0_0 a0_1 a0_2 a0_3 a0_4 a1 = some (r1,r2,r3,r4,r5,r6)) :
 Calls Try.prog 42 #[.agg #[.int .i64 a0_0,.int .i64 a0_1,.int .i64 a0_2,.int .i64 a0_3,.string a0_4],.int .i64 a1] w fun e w' => e = .returned (.tuple #[.agg #[.int .i64 r1,.int .i64 r2,.int .i64 r3,.int .i64 r4,.string r5],.int .i64 r6]) ∧ Below w.heap.size w w' := by
 have hu49 := Try.underlying49;have HB := Zb.mk (Below.refl w.heap.size w);have H : ((XN.f a0_0 a0_1 a0_2 a0_3 a0_4).bind fun t244 => (if t244 = true then ((ZV.f a1).bind fun t245 => (if t245 = true then ((Xy.f a0_0 a0_1 a0_2 a0_3 a0_4 a1).bind fun bt246 => (some (bt246.1,bt246.2.1,bt246.2.2.1,bt246.2.2.2.1,bt246.2.2.2.2,0))) else (some (0,0,0,0,(⟨#[]⟩ : ByteArray),7)))) else (some (0,0,0,0,(⟨#[]⟩ : ByteArray),1)))) = some (r1,r2,r3,r4,r5,r6) := h;clear h;replace H := Option.bind_eq_some_iff.mp H;obtain ⟨t244,A30,H⟩ := H;replace H : (if t244 = true then ((ZV.f a1).bind fun t245 => (if t245 = true then ((Xy.f a0_0 a0_1 a0_2 a0_3 a0_4 a1).bind fun bt246 => (some (bt246.1,bt246.2.1,bt246.2.2.1,bt246.2.2.2.1,bt246.2.2.2.2,0))) else (some (0,0,0,0,(⟨#[]⟩ : ByteArray),7)))) else (some (0,0,0,0,(⟨#[]⟩ : ByteArray),1))) = some (r1,r2,r3,r4,r5,r6) := H;have A3 := Zb.mk A30;clear A30
 by_cases c4 : t244 = true
 · subst c4
   have H1 : ((ZV.f a1).bind fun t245 => (if t245 = true then ((Xy.f a0_0 a0_1 a0_2 a0_3 a0_4 a1).bind fun bt246 => (some (bt246.1,bt246.2.1,bt246.2.2.1,bt246.2.2.2.1,bt246.2.2.2.2,0))) else (some (0,0,0,0,(⟨#[]⟩ : ByteArray),7)))) = some (r1,r2,r3,r4,r5,r6) := by rw [if_pos rfl] at H;exact H
   clear H;have H := H1;clear H1;replace H := Option.bind_eq_some_iff.mp H;obtain ⟨t245,A50,H⟩ := H;replace H : (if t245 = true then ((Xy.f a0_0 a0_1 a0_2 a0_3 a0_4 a1).bind fun bt246 => (some (bt246.1,bt246.2.1,bt246.2.2.1,bt246.2.2.2.1,bt246.2.2.2.2,0))) else (some (0,0,0,0,(⟨#[]⟩ : ByteArray),7))) = some (r1,r2,r3,r4,r5,r6) := H;have A5 := Zb.mk A50;clear A50
   by_cases c6 : t245 = true
   · subst c6
     have H1 : ((Xy.f a0_0 a0_1 a0_2 a0_3 a0_4 a1).bind fun bt246 => (some (bt246.1,bt246.2.1,bt246.2.2.1,bt246.2.2.2.1,bt246.2.2.2.2,0))) = some (r1,r2,r3,r4,r5,r6) := by rw [if_pos rfl] at H;exact H
     clear H;have H := H1;clear H1;replace H := Option.bind_eq_some_iff.mp H;obtain ⟨⟨t246,t247,t248,t249,t250⟩,A70,H⟩ := H;replace H : (some (t246,t247,t248,t249,t250,0)) = some (r1,r2,r3,r4,r5,r6) := H;have A7 := Zb.mk A70;clear A70;simp only [Option.some.injEq,Prod.mk.injEq] at H;obtain ⟨rfl,rfl,rfl,rfl,rfl,rfl⟩ := H
     go_enter Try.func42,Try.ntmps42
     go_wp2_with (first | ((with_reducible refine ZJ (N := 2) rfl ?_);refine ZI ?hg (N := 2) ?hd (cs := #[.int .i64 a0_0,.int .i64 a0_1,.int .i64 a0_2,.int .i64 a0_3,.string a0_4]) (t := 49) ?hr ?_;(case hd => rfl);(case hg => rfl);(case hr => first | (go_simp;done) | (go_simp;rfl));intro gb242 hg w8 hbox hb;have n0_ := Zb.mk (Zr (by repeat (first | (with_reducible first | exact HB.out | apply Zf | apply Za | apply Zd) | exact HB.out)) hb);have n1_ := Zb.mk (hbox);have n2_ := Zb.mk ((by rw [hg];exact (Zp (by repeat (first | (with_reducible first | exact HB.out | apply Zf | apply Za | apply Zd) | exact HB.out))) : w.heap.size ≤ gb242));have n3_ := Zb.mk ((by rw [hg];exact (Zp (by repeat (first | (with_reducible first | exact HB.out | apply Zf | apply Za | apply Zd) | exact HB.out))) : w.heap.size ≤ gb242));clear HB;have HB := n0_;have BK242 := n1_;have GW242 := n2_;have GE242 := n3_;clear n0_ n1_ n2_ n3_;clear hb hbox hg) | ((with_reducible refine ZJ (N := 4) rfl ?_);refine ZI ?hg (N := 4) ?hd (cs := #[.int .i64 0,.int .i64 0,.int .i64 0,.int .i64 0,.string (⟨#[]⟩ : ByteArray)]) (t := 49) ?hr ?_;(case hd => rfl);(case hg => rfl);(case hr => first | (go_simp;done) | (go_simp;rfl));intro gb243 hg w9 hbox hb;have n0_ := Zb.mk (ZG (g := gb242) (o := .cells #[.int .i64 a0_0,.int .i64 a0_1,.int .i64 a0_2,.int .i64 a0_3,.string a0_4] 49 (0,0)) (by (with_reducible repeat (first | refine Zl ?_ _ | refine Zn ?_ | refine Zk ?_ _));exact BK242.out) hb);have n1_ := Zb.mk (Zr (by repeat (first | (with_reducible first | exact HB.out | apply Zf | apply Za | apply Zd | refine Zo ?_ GE242.out) | exact HB.out)) hb);have n2_ := Zb.mk (hbox);have n3_ := Zb.mk ((by rw [hg];exact (Zp (by repeat (first | (with_reducible first | exact HB.out | apply Zf | apply Za | apply Zd | refine Zo ?_ GE242.out) | exact HB.out))) : w.heap.size ≤ gb243));have n4_ := Zb.mk ((by rw [hg];exact (Zp (by repeat (first | (with_reducible first | exact HB.out | apply Zf | apply Za | apply Zd | refine Zo ?_ GE242.out) | exact HB.out))) : w.heap.size ≤ gb243));have n5_ := Zb.mk ((by rw [hg];exact Nat.ne_of_lt (XR (g := gb242) (o := .cells #[.int .i64 a0_0,.int .i64 a0_1,.int .i64 a0_2,.int .i64 a0_3,.string a0_4] 49 (0,0)) (by (with_reducible repeat (first | refine Zl ?_ _ | refine Zn ?_ | refine Zk ?_ _));exact BK242.out)) : gb242 ≠ gb243));have n6_ := Zb.mk ((by rw [hg];exact Nat.ne_of_gt (XR (g := gb242) (o := .cells #[.int .i64 a0_0,.int .i64 a0_1,.int .i64 a0_2,.int .i64 a0_3,.string a0_4] 49 (0,0)) (by (with_reducible repeat (first | refine Zl ?_ _ | refine Zn ?_ | refine Zk ?_ _));exact BK242.out)) : gb243 ≠ gb242));clear BK242;clear HB;have BK242 := n0_;have HB := n1_;have BK243 := n2_;have GW243 := n3_;have GE243 := n4_;have NB242_243 := n5_;have NB243_242 := n6_;clear n0_ n1_ n2_ n3_ n4_ n5_ n6_;clear hb hbox hg;have hnb10 := NB242_243.out;have hnc10 := NB243_242.out;have hcz11_0 : w9.cell? ⟨gb242,0,none⟩ = some (.int .i64 a0_0) := (Zg BK242.out 0).trans rfl;have hcz11_1 : w9.cell? ⟨gb242,1,none⟩ = some (.int .i64 a0_1) := (Zg BK242.out 1).trans rfl;have hcz11_2 : w9.cell? ⟨gb242,2,none⟩ = some (.int .i64 a0_2) := (Zg BK242.out 2).trans rfl;have hcz11_3 : w9.cell? ⟨gb242,3,none⟩ = some (.int .i64 a0_3) := (Zg BK242.out 3).trans rfl;have hcz11_4 : w9.cell? ⟨gb242,4,none⟩ = some (.string a0_4) := (Zg BK242.out 4).trans rfl;have hfz11_0 := Zh BK242.out 0;have hfz11_1 := Zh BK242.out 1;have hfz11_2 := Zh BK242.out 2;have hfz11_3 := Zh BK242.out 3;have hfz11_4 := Zh BK242.out 4) | ((with_reducible refine Zw (f := 33) rfl ?_);refine ZP (some 8) rfl rfl Try.func33 (by kernel_rfl) rfl #[.agg #[.int .i64 a0_0,.int .i64 a0_1,.int .i64 a0_2,.int .i64 a0_3,.string a0_4]] rfl (by (try simp only [List.map_toArray,List.map_cons,List.map_nil]);first | done | rfl | (simp only [List.length_drop,List.length_take];rfl)) ?_;(with_reducible refine (XN.calls a0_0 a0_1 a0_2 a0_3 a0_4 true _ A3.out).mono ?_);rintro e w12 ⟨rfl,hb⟩;refine ⟨_,rfl,?_⟩;have n0_ := Zb.mk (ZG (g := gb242) (o := .cells #[.int .i64 a0_0,.int .i64 a0_1,.int .i64 a0_2,.int .i64 a0_3,.string a0_4] 49 (0,0)) (by (with_reducible repeat (first | refine Zl ?_ _ | refine Zn ?_ | refine Zk ?_ _));exact BK242.out) hb);have n1_ := Zb.mk (ZG (g := gb243) (o := .cells #[.int .i64 0,.int .i64 0,.int .i64 0,.int .i64 0,.string (⟨#[]⟩ : ByteArray)] 49 (0,0)) (by (with_reducible repeat (first | refine Zl ?_ _ | refine Zn ?_ | refine Zk ?_ _));exact BK243.out) hb);have n2_ := Zb.mk (Zr (by repeat (first | (with_reducible first | exact HB.out | apply Zf | apply Za | apply Zd | refine Zo ?_ GE242.out | refine Zo ?_ GE243.out) | exact HB.out)) hb);clear BK242;clear BK243;clear HB;have BK242 := n0_;have BK243 := n1_;have HB := n2_;clear n0_ n1_ n2_;(try clear hb);(try clear hb2);(try clear hk);(try clear hi)) | ((with_reducible refine Zw (f := 95) rfl ?_);refine ZP (some 13) rfl rfl Try.func95 (by kernel_rfl) rfl #[.int .i64 a1] rfl (by (try simp only [List.map_toArray,List.map_cons,List.map_nil]);first | done | rfl | (simp only [List.length_drop,List.length_take];rfl)) ?_;(with_reducible refine (ZV.calls a1 true _ A5.out).mono ?_);rintro e w' ⟨rfl,⟨nd,rfl⟩⟩;refine ⟨_,rfl,?_⟩;(try (rw [YO w12];generalize hq_ : World.drewN w12 _ = w12;have n0_ : Zb (w12.heap[gb242]? = some (.cells #[.int .i64 a0_0,.int .i64 a0_1,.int .i64 a0_2,.int .i64 a0_3,.string a0_4] 49 (0,0))) := ⟨by rw [← hq_];exact (by (with_reducible repeat (first | refine Zl ?_ _ | refine Zn ?_ | refine Zk ?_ _));exact BK242.out)⟩;have n1_ : Zb (w12.heap[gb243]? = some (.cells #[.int .i64 0,.int .i64 0,.int .i64 0,.int .i64 0,.string (⟨#[]⟩ : ByteArray)] 49 (0,0))) := ⟨by rw [← hq_];exact (by (with_reducible repeat (first | refine Zl ?_ _ | refine Zn ?_ | refine Zk ?_ _));exact BK243.out)⟩;have n2_ : Zb (Below w.heap.size w w12) := ⟨by rw [← hq_];exact (by repeat (first | (with_reducible first | exact HB.out | apply Zf | apply Za | apply Zd | refine Zo ?_ GE242.out | refine Zo ?_ GE243.out) | exact HB.out))⟩;clear BK242 BK243 HB hq_;have BK242 := n0_;have BK243 := n1_;have HB := n2_;clear n0_ n1_ n2_));have hcz13_0 : w12.cell? ⟨gb242,0,none⟩ = some (.int .i64 a0_0) := (Zg BK242.out 0).trans rfl;have hcz13_1 : w12.cell? ⟨gb242,1,none⟩ = some (.int .i64 a0_1) := (Zg BK242.out 1).trans rfl;have hcz13_2 : w12.cell? ⟨gb242,2,none⟩ = some (.int .i64 a0_2) := (Zg BK242.out 2).trans rfl;have hcz13_3 : w12.cell? ⟨gb242,3,none⟩ = some (.int .i64 a0_3) := (Zg BK242.out 3).trans rfl;have hcz13_4 : w12.cell? ⟨gb242,4,none⟩ = some (.string a0_4) := (Zg BK242.out 4).trans rfl;have hfz13_0 := Zh BK242.out 0;have hfz13_1 := Zh BK242.out 1;have hfz13_2 := Zh BK242.out 2;have hfz13_3 := Zh BK242.out 3;have hfz13_4 := Zh BK242.out 4) | ((with_reducible refine Zw (f := 87) rfl ?_);refine ZP (some 18) rfl rfl Try.func87 (by kernel_rfl) rfl #[.agg #[.int .i64 a0_0,.int .i64 a0_1,.int .i64 a0_2,.int .i64 a0_3,.string a0_4],.int .i64 a1] rfl (by (try simp only [List.map_toArray,List.map_cons,List.map_nil]);first | done | rfl | (simp only [List.length_drop,List.length_take];rfl)) ?_;(with_reducible refine (Xy.calls a0_0 a0_1 a0_2 a0_3 a0_4 a1 t246 t247 t248 t249 t250 _ A7.out).mono ?_);rintro e w14 ⟨rfl,hb⟩;refine ⟨_,rfl,?_⟩;have n0_ := Zb.mk (ZG (g := gb242) (o := .cells #[.int .i64 a0_0,.int .i64 a0_1,.int .i64 a0_2,.int .i64 a0_3,.string a0_4] 49 (0,0)) (by (with_reducible repeat (first | refine Zl ?_ _ | refine Zn ?_ | refine Zk ?_ _));exact BK242.out) hb);have n1_ := Zb.mk (ZG (g := gb243) (o := .cells #[.int .i64 0,.int .i64 0,.int .i64 0,.int .i64 0,.string (⟨#[]⟩ : ByteArray)] 49 (0,0)) (by (with_reducible repeat (first | refine Zl ?_ _ | refine Zn ?_ | refine Zk ?_ _));exact BK243.out) hb);have n2_ := Zb.mk (Zr (by repeat (first | (with_reducible first | exact HB.out | apply Zf | apply Za | apply Zd | refine Zo ?_ GE242.out | refine Zo ?_ GE243.out) | exact HB.out)) hb);clear BK242;clear BK243;clear HB;have BK242 := n0_;have BK243 := n1_;have HB := n2_;clear n0_ n1_ n2_;(try clear hb);(try clear hb2);(try clear hk);(try clear hi);have hcz15_0 : w14.cell? ⟨gb243,0,none⟩ = some (.int .i64 0) := (Zg BK243.out 0).trans rfl;have hcz15_1 : w14.cell? ⟨gb243,1,none⟩ = some (.int .i64 0) := (Zg BK243.out 1).trans rfl;have hcz15_2 : w14.cell? ⟨gb243,2,none⟩ = some (.int .i64 0) := (Zg BK243.out 2).trans rfl;have hcz15_3 : w14.cell? ⟨gb243,3,none⟩ = some (.int .i64 0) := (Zg BK243.out 3).trans rfl;have hcz15_4 : w14.cell? ⟨gb243,4,none⟩ = some (.string (⟨#[]⟩ : ByteArray)) := (Zg BK243.out 4).trans rfl;have hfz15_0 := Zh BK243.out 0;have hfz15_1 := Zh BK243.out 1;have hfz15_2 := Zh BK243.out 2;have hfz15_3 := Zh BK243.out 3;have hfz15_4 := Zh BK243.out 4))
     refine bodyPost_ret (XP rfl _ _ gb243 49 #[.int .i64 t246,.int .i64 t247,.int .i64 t248,.int .i64 t249,.string t250] (0,0) _ rfl (by (with_reducible repeat (first | refine Zl ?_ _ | refine Zn ?_ | refine Zk ?_ _));refine Z8 (cs := #[.int .i64 t246,.int .i64 t247,.int .i64 t248,.int .i64 t249,.string (⟨#[]⟩ : ByteArray)]) ?_ 4 _ rfl;(with_reducible repeat (first | refine Zl ?_ _ | refine Zn ?_ | refine Zk ?_ _));refine Z8 (cs := #[.int .i64 t246,.int .i64 t247,.int .i64 t248,.int .i64 0,.string (⟨#[]⟩ : ByteArray)]) ?_ 3 _ rfl;(with_reducible repeat (first | refine Zl ?_ _ | refine Zn ?_ | refine Zk ?_ _));refine Z8 (cs := #[.int .i64 t246,.int .i64 t247,.int .i64 0,.int .i64 0,.string (⟨#[]⟩ : ByteArray)]) ?_ 2 _ rfl;(with_reducible repeat (first | refine Zl ?_ _ | refine Zn ?_ | refine Zk ?_ _));refine Z8 (cs := #[.int .i64 t246,.int .i64 0,.int .i64 0,.int .i64 0,.string (⟨#[]⟩ : ByteArray)]) ?_ 1 _ rfl;(with_reducible repeat (first | refine Zl ?_ _ | refine Zn ?_ | refine Zk ?_ _));refine Z8 (cs := #[.int .i64 0,.int .i64 0,.int .i64 0,.int .i64 0,.string (⟨#[]⟩ : ByteArray)]) ?_ 0 _ rfl;(with_reducible repeat (first | refine Zl ?_ _ | refine Zn ?_ | refine Zk ?_ _));exact BK243.out) Try.underlying49 rfl (by kernel_rfl)) rfl ?_;exact ⟨by first | rfl | (simp [Zu,Zt] <;> rfl) | (simp [*,Zu,Zt] <;> rfl),by repeat (first | (with_reducible first | exact HB.out | apply Zf | apply Za | apply Zd | refine Zo ?_ GE242.out | refine Zo ?_ GE243.out) | exact HB.out)⟩
   · replace c6 := Bool.eq_false_iff.mpr c6
     subst c6
     have H1 : (some (0,0,0,0,(⟨#[]⟩ : ByteArray),7)) = some (r1,r2,r3,r4,r5,r6) := by rw [if_neg (show ¬ (false = true) by decide)] at H;exact H
     clear H;have H := H1;clear H1;simp only [Option.some.injEq,Prod.mk.injEq] at H;obtain ⟨rfl,rfl,rfl,rfl,rfl,rfl⟩ := H
     go_enter Try.func42,Try.ntmps42
     go_wp2_with (first | ((with_reducible refine ZJ (N := 2) rfl ?_);refine ZI ?hg (N := 2) ?hd (cs := #[.int .i64 a0_0,.int .i64 a0_1,.int .i64 a0_2,.int .i64 a0_3,.string a0_4]) (t := 49) ?hr ?_;(case hd => rfl);(case hg => rfl);(case hr => first | (go_simp;done) | (go_simp;rfl));intro gb242 hg w16 hbox hb;have n0_ := Zb.mk (Zr (by repeat (first | (with_reducible first | exact HB.out | apply Zf | apply Za | apply Zd) | exact HB.out)) hb);have n1_ := Zb.mk (hbox);have n2_ := Zb.mk ((by rw [hg];exact (Zp (by repeat (first | (with_reducible first | exact HB.out | apply Zf | apply Za | apply Zd) | exact HB.out))) : w.heap.size ≤ gb242));have n3_ := Zb.mk ((by rw [hg];exact (Zp (by repeat (first | (with_reducible first | exact HB.out | apply Zf | apply Za | apply Zd) | exact HB.out))) : w.heap.size ≤ gb242));clear HB;have HB := n0_;have BK242 := n1_;have GW242 := n2_;have GE242 := n3_;clear n0_ n1_ n2_ n3_;clear hb hbox hg) | ((with_reducible refine ZJ (N := 4) rfl ?_);refine ZI ?hg (N := 4) ?hd (cs := #[.int .i64 0,.int .i64 0,.int .i64 0,.int .i64 0,.string (⟨#[]⟩ : ByteArray)]) (t := 49) ?hr ?_;(case hd => rfl);(case hg => rfl);(case hr => first | (go_simp;done) | (go_simp;rfl));intro gb243 hg w17 hbox hb;have n0_ := Zb.mk (ZG (g := gb242) (o := .cells #[.int .i64 a0_0,.int .i64 a0_1,.int .i64 a0_2,.int .i64 a0_3,.string a0_4] 49 (0,0)) (by (with_reducible repeat (first | refine Zl ?_ _ | refine Zn ?_ | refine Zk ?_ _));exact BK242.out) hb);have n1_ := Zb.mk (Zr (by repeat (first | (with_reducible first | exact HB.out | apply Zf | apply Za | apply Zd | refine Zo ?_ GE242.out) | exact HB.out)) hb);have n2_ := Zb.mk (hbox);have n3_ := Zb.mk ((by rw [hg];exact (Zp (by repeat (first | (with_reducible first | exact HB.out | apply Zf | apply Za | apply Zd | refine Zo ?_ GE242.out) | exact HB.out))) : w.heap.size ≤ gb243));have n4_ := Zb.mk ((by rw [hg];exact (Zp (by repeat (first | (with_reducible first | exact HB.out | apply Zf | apply Za | apply Zd | refine Zo ?_ GE242.out) | exact HB.out))) : w.heap.size ≤ gb243));have n5_ := Zb.mk ((by rw [hg];exact Nat.ne_of_lt (XR (g := gb242) (o := .cells #[.int .i64 a0_0,.int .i64 a0_1,.int .i64 a0_2,.int .i64 a0_3,.string a0_4] 49 (0,0)) (by (with_reducible repeat (first | refine Zl ?_ _ | refine Zn ?_ | refine Zk ?_ _));exact BK242.out)) : gb242 ≠ gb243));have n6_ := Zb.mk ((by rw [hg];exact Nat.ne_of_gt (XR (g := gb242) (o := .cells #[.int .i64 a0_0,.int .i64 a0_1,.int .i64 a0_2,.int .i64 a0_3,.string a0_4] 49 (0,0)) (by (with_reducible repeat (first | refine Zl ?_ _ | refine Zn ?_ | refine Zk ?_ _));exact BK242.out)) : gb243 ≠ gb242));clear BK242;clear HB;have BK242 := n0_;have HB := n1_;have BK243 := n2_;have GW243 := n3_;have GE243 := n4_;have NB242_243 := n5_;have NB243_242 := n6_;clear n0_ n1_ n2_ n3_ n4_ n5_ n6_;clear hb hbox hg;have hnb18 := NB242_243.out;have hnc18 := NB243_242.out;have hcz19_0 : w17.cell? ⟨gb242,0,none⟩ = some (.int .i64 a0_0) := (Zg BK242.out 0).trans rfl;have hcz19_1 : w17.cell? ⟨gb242,1,none⟩ = some (.int .i64 a0_1) := (Zg BK242.out 1).trans rfl;have hcz19_2 : w17.cell? ⟨gb242,2,none⟩ = some (.int .i64 a0_2) := (Zg BK242.out 2).trans rfl;have hcz19_3 : w17.cell? ⟨gb242,3,none⟩ = some (.int .i64 a0_3) := (Zg BK242.out 3).trans rfl;have hcz19_4 : w17.cell? ⟨gb242,4,none⟩ = some (.string a0_4) := (Zg BK242.out 4).trans rfl;have hfz19_0 := Zh BK242.out 0;have hfz19_1 := Zh BK242.out 1;have hfz19_2 := Zh BK242.out 2;have hfz19_3 := Zh BK242.out 3;have hfz19_4 := Zh BK242.out 4) | ((with_reducible refine Zw (f := 33) rfl ?_);refine ZP (some 8) rfl rfl Try.func33 (by kernel_rfl) rfl #[.agg #[.int .i64 a0_0,.int .i64 a0_1,.int .i64 a0_2,.int .i64 a0_3,.string a0_4]] rfl (by (try simp only [List.map_toArray,List.map_cons,List.map_nil]);first | done | rfl | (simp only [List.length_drop,List.length_take];rfl)) ?_;(with_reducible refine (XN.calls a0_0 a0_1 a0_2 a0_3 a0_4 true _ A3.out).mono ?_);rintro e w20 ⟨rfl,hb⟩;refine ⟨_,rfl,?_⟩;have n0_ := Zb.mk (ZG (g := gb242) (o := .cells #[.int .i64 a0_0,.int .i64 a0_1,.int .i64 a0_2,.int .i64 a0_3,.string a0_4] 49 (0,0)) (by (with_reducible repeat (first | refine Zl ?_ _ | refine Zn ?_ | refine Zk ?_ _));exact BK242.out) hb);have n1_ := Zb.mk (ZG (g := gb243) (o := .cells #[.int .i64 0,.int .i64 0,.int .i64 0,.int .i64 0,.string (⟨#[]⟩ : ByteArray)] 49 (0,0)) (by (with_reducible repeat (first | refine Zl ?_ _ | refine Zn ?_ | refine Zk ?_ _));exact BK243.out) hb);have n2_ := Zb.mk (Zr (by repeat (first | (with_reducible first | exact HB.out | apply Zf | apply Za | apply Zd | refine Zo ?_ GE242.out | refine Zo ?_ GE243.out) | exact HB.out)) hb);clear BK242;clear BK243;clear HB;have BK242 := n0_;have BK243 := n1_;have HB := n2_;clear n0_ n1_ n2_;(try clear hb);(try clear hb2);(try clear hk);(try clear hi)) | ((with_reducible refine Zw (f := 95) rfl ?_);refine ZP (some 13) rfl rfl Try.func95 (by kernel_rfl) rfl #[.int .i64 a1] rfl (by (try simp only [List.map_toArray,List.map_cons,List.map_nil]);first | done | rfl | (simp only [List.length_drop,List.length_take];rfl)) ?_;(with_reducible refine (ZV.calls a1 false _ A5.out).mono ?_);rintro e w' ⟨rfl,⟨nd,rfl⟩⟩;refine ⟨_,rfl,?_⟩;(try (rw [YO w20];generalize hq_ : World.drewN w20 _ = w20;have n0_ : Zb (w20.heap[gb242]? = some (.cells #[.int .i64 a0_0,.int .i64 a0_1,.int .i64 a0_2,.int .i64 a0_3,.string a0_4] 49 (0,0))) := ⟨by rw [← hq_];exact (by (with_reducible repeat (first | refine Zl ?_ _ | refine Zn ?_ | refine Zk ?_ _));exact BK242.out)⟩;have n1_ : Zb (w20.heap[gb243]? = some (.cells #[.int .i64 0,.int .i64 0,.int .i64 0,.int .i64 0,.string (⟨#[]⟩ : ByteArray)] 49 (0,0))) := ⟨by rw [← hq_];exact (by (with_reducible repeat (first | refine Zl ?_ _ | refine Zn ?_ | refine Zk ?_ _));exact BK243.out)⟩;have n2_ : Zb (Below w.heap.size w w20) := ⟨by rw [← hq_];exact (by repeat (first | (with_reducible first | exact HB.out | apply Zf | apply Za | apply Zd | refine Zo ?_ GE242.out | refine Zo ?_ GE243.out) | exact HB.out))⟩;clear BK242 BK243 HB hq_;have BK242 := n0_;have BK243 := n1_;have HB := n2_;clear n0_ n1_ n2_));have hcz21_0 : w20.cell? ⟨gb243,0,none⟩ = some (.int .i64 0) := (Zg BK243.out 0).trans rfl;have hcz21_1 : w20.cell? ⟨gb243,1,none⟩ = some (.int .i64 0) := (Zg BK243.out 1).trans rfl;have hcz21_2 : w20.cell? ⟨gb243,2,none⟩ = some (.int .i64 0) := (Zg BK243.out 2).trans rfl;have hcz21_3 : w20.cell? ⟨gb243,3,none⟩ = some (.int .i64 0) := (Zg BK243.out 3).trans rfl;have hcz21_4 : w20.cell? ⟨gb243,4,none⟩ = some (.string (⟨#[]⟩ : ByteArray)) := (Zg BK243.out 4).trans rfl;have hfz21_0 := Zh BK243.out 0;have hfz21_1 := Zh BK243.out 1;have hfz21_2 := Zh BK243.out 2;have hfz21_3 := Zh BK243.out 3;have hfz21_4 := Zh BK243.out 4))
     refine bodyPost_ret (XP rfl _ _ gb243 49 #[.int .i64 0,.int .i64 0,.int .i64 0,.int .i64 0,.string (⟨#[]⟩ : ByteArray)] (0,0) _ rfl (by (with_reducible repeat (first | refine Zl ?_ _ | refine Zn ?_ | refine Zk ?_ _));refine Z8 (cs := #[.int .i64 0,.int .i64 0,.int .i64 0,.int .i64 0,.string (⟨#[]⟩ : ByteArray)]) ?_ 4 _ rfl;(with_reducible repeat (first | refine Zl ?_ _ | refine Zn ?_ | refine Zk ?_ _));refine Z8 (cs := #[.int .i64 0,.int .i64 0,.int .i64 0,.int .i64 0,.string (⟨#[]⟩ : ByteArray)]) ?_ 3 _ rfl;(with_reducible repeat (first | refine Zl ?_ _ | refine Zn ?_ | refine Zk ?_ _));refine Z8 (cs := #[.int .i64 0,.int .i64 0,.int .i64 0,.int .i64 0,.string (⟨#[]⟩ : ByteArray)]) ?_ 2 _ rfl;(with_reducible repeat (first | refine Zl ?_ _ | refine Zn ?_ | refine Zk ?_ _));refine Z8 (cs := #[.int .i64 0,.int .i64 0,.int .i64 0,.int .i64 0,.string (⟨#[]⟩ : ByteArray)]) ?_ 1 _ rfl;(with_reducible repeat (first | refine Zl ?_ _ | refine Zn ?_ | refine Zk ?_ _));refine Z8 (cs := #[.int .i64 0,.int .i64 0,.int .i64 0,.int .i64 0,.string (⟨#[]⟩ : ByteArray)]) ?_ 0 _ rfl;(with_reducible repeat (first | refine Zl ?_ _ | refine Zn ?_ | refine Zk ?_ _));exact BK243.out) Try.underlying49 rfl (by kernel_rfl)) rfl ?_;exact ⟨by first | rfl | (simp [Zu,Zt] <;> rfl) | (simp [*,Zu,Zt] <;> rfl),by repeat (first | (with_reducible first | exact HB.out | apply Zf | apply Za | apply Zd | refine Zo ?_ GE242.out | refine Zo ?_ GE243.out) | exact HB.out)⟩
 · replace c4 := Bool.eq_false_iff.mpr c4
   subst c4
   have H1 : (some (0,0,0,0,(⟨#[]⟩ : ByteArray),1)) = some (r1,r2,r3,r4,r5,r6) := by rw [if_neg (show ¬ (false = true) by decide)] at H;exact H
   clear H;have H := H1;clear H1;simp only [Option.some.injEq,Prod.mk.injEq] at H;obtain ⟨rfl,rfl,rfl,rfl,rfl,rfl⟩ := H
   go_enter Try.func42,Try.ntmps42
   go_wp2_with (first | ((with_reducible refine ZJ (N := 2) rfl ?_);refine ZI ?hg (N := 2) ?hd (cs := #[.int .i64 a0_0,.int .i64 a0_1,.int .i64 a0_2,.int .i64 a0_3,.string a0_4]) (t := 49) ?hr ?_;(case hd => rfl);(case hg => rfl);(case hr => first | (go_simp;done) | (go_simp;rfl));intro gb242 hg w22 hbox hb;have n0_ := Zb.mk (Zr (by repeat (first | (with_reducible first | exact HB.out | apply Zf | apply Za | apply Zd) | exact HB.out)) hb);have n1_ := Zb.mk (hbox);have n2_ := Zb.mk ((by rw [hg];exact (Zp (by repeat (first | (with_reducible first | exact HB.out | apply Zf | apply Za | apply Zd) | exact HB.out))) : w.heap.size ≤ gb242));have n3_ := Zb.mk ((by rw [hg];exact (Zp (by repeat (first | (with_reducible first | exact HB.out | apply Zf | apply Za | apply Zd) | exact HB.out))) : w.heap.size ≤ gb242));clear HB;have HB := n0_;have BK242 := n1_;have GW242 := n2_;have GE242 := n3_;clear n0_ n1_ n2_ n3_;clear hb hbox hg) | ((with_reducible refine ZJ (N := 4) rfl ?_);refine ZI ?hg (N := 4) ?hd (cs := #[.int .i64 0,.int .i64 0,.int .i64 0,.int .i64 0,.string (⟨#[]⟩ : ByteArray)]) (t := 49) ?hr ?_;(case hd => rfl);(case hg => rfl);(case hr => first | (go_simp;done) | (go_simp;rfl));intro gb243 hg w23 hbox hb;have n0_ := Zb.mk (ZG (g := gb242) (o := .cells #[.int .i64 a0_0,.int .i64 a0_1,.int .i64 a0_2,.int .i64 a0_3,.string a0_4] 49 (0,0)) (by (with_reducible repeat (first | refine Zl ?_ _ | refine Zn ?_ | refine Zk ?_ _));exact BK242.out) hb);have n1_ := Zb.mk (Zr (by repeat (first | (with_reducible first | exact HB.out | apply Zf | apply Za | apply Zd | refine Zo ?_ GE242.out) | exact HB.out)) hb);have n2_ := Zb.mk (hbox);have n3_ := Zb.mk ((by rw [hg];exact (Zp (by repeat (first | (with_reducible first | exact HB.out | apply Zf | apply Za | apply Zd | refine Zo ?_ GE242.out) | exact HB.out))) : w.heap.size ≤ gb243));have n4_ := Zb.mk ((by rw [hg];exact (Zp (by repeat (first | (with_reducible first | exact HB.out | apply Zf | apply Za | apply Zd | refine Zo ?_ GE242.out) | exact HB.out))) : w.heap.size ≤ gb243));have n5_ := Zb.mk ((by rw [hg];exact Nat.ne_of_lt (XR (g := gb242) (o := .cells #[.int .i64 a0_0,.int .i64 a0_1,.int .i64 a0_2,.int .i64 a0_3,.string a0_4] 49 (0,0)) (by (with_reducible repeat (first | refine Zl ?_ _ | refine Zn ?_ | refine Zk ?_ _));exact BK242.out)) : gb242 ≠ gb243));have n6_ := Zb.mk ((by rw [hg];exact Nat.ne_of_gt (XR (g := gb242) (o := .cells #[.int .i64 a0_0,.int .i64 a0_1,.int .i64 a0_2,.int .i64 a0_3,.string a0_4] 49 (0,0)) (by (with_reducible repeat (first | refine Zl ?_ _ | refine Zn ?_ | refine Zk ?_ _));exact BK242.out)) : gb243 ≠ gb242));clear BK242;clear HB;have BK242 := n0_;have HB := n1_;have BK243 := n2_;have GW243 := n3_;have GE243 := n4_;have NB242_243 := n5_;have NB243_242 := n6_;clear n0_ n1_ n2_ n3_ n4_ n5_ n6_;clear hb hbox hg;have hnb24 := NB242_243.out;have hnc24 := NB243_242.out;have hcz25_0 : w23.cell? ⟨gb242,0,none⟩ = some (.int .i64 a0_0) := (Zg BK242.out 0).trans rfl;have hcz25_1 : w23.cell? ⟨gb242,1,none⟩ = some (.int .i64 a0_1) := (Zg BK242.out 1).trans rfl;have hcz25_2 : w23.cell? ⟨gb242,2,none⟩ = some (.int .i64 a0_2) := (Zg BK242.out 2).trans rfl;have hcz25_3 : w23.cell? ⟨gb242,3,none⟩ = some (.int .i64 a0_3) := (Zg BK242.out 3).trans rfl;have hcz25_4 : w23.cell? ⟨gb242,4,none⟩ = some (.string a0_4) := (Zg BK242.out 4).trans rfl;have hfz25_0 := Zh BK242.out 0;have hfz25_1 := Zh BK242.out 1;have hfz25_2 := Zh BK242.out 2;have hfz25_3 := Zh BK242.out 3;have hfz25_4 := Zh BK242.out 4) | ((with_reducible refine Zw (f := 33) rfl ?_);refine ZP (some 8) rfl rfl Try.func33 (by kernel_rfl) rfl #[.agg #[.int .i64 a0_0,.int .i64 a0_1,.int .i64 a0_2,.int .i64 a0_3,.string a0_4]] rfl (by (try simp only [List.map_toArray,List.map_cons,List.map_nil]);first | done | rfl | (simp only [List.length_drop,List.length_take];rfl)) ?_;(with_reducible refine (XN.calls a0_0 a0_1 a0_2 a0_3 a0_4 false _ A3.out).mono ?_);rintro e w26 ⟨rfl,hb⟩;refine ⟨_,rfl,?_⟩;have n0_ := Zb.mk (ZG (g := gb242) (o := .cells #[.int .i64 a0_0,.int .i64 a0_1,.int .i64 a0_2,.int .i64 a0_3,.string a0_4] 49 (0,0)) (by (with_reducible repeat (first | refine Zl ?_ _ | refine Zn ?_ | refine Zk ?_ _));exact BK242.out) hb);have n1_ := Zb.mk (ZG (g := gb243) (o := .cells #[.int .i64 0,.int .i64 0,.int .i64 0,.int .i64 0,.string (⟨#[]⟩ : ByteArray)] 49 (0,0)) (by (with_reducible repeat (first | refine Zl ?_ _ | refine Zn ?_ | refine Zk ?_ _));exact BK243.out) hb);have n2_ := Zb.mk (Zr (by repeat (first | (with_reducible first | exact HB.out | apply Zf | apply Za | apply Zd | refine Zo ?_ GE242.out | refine Zo ?_ GE243.out) | exact HB.out)) hb);clear BK242;clear BK243;clear HB;have BK242 := n0_;have BK243 := n1_;have HB := n2_;clear n0_ n1_ n2_;(try clear hb);(try clear hb2);(try clear hk);(try clear hi);have hcz27_0 : w26.cell? ⟨gb243,0,none⟩ = some (.int .i64 0) := (Zg BK243.out 0).trans rfl;have hcz27_1 : w26.cell? ⟨gb243,1,none⟩ = some (.int .i64 0) := (Zg BK243.out 1).trans rfl;have hcz27_2 : w26.cell? ⟨gb243,2,none⟩ = some (.int .i64 0) := (Zg BK243.out 2).trans rfl;have hcz27_3 : w26.cell? ⟨gb243,3,none⟩ = some (.int .i64 0) := (Zg BK243.out 3).trans rfl;have hcz27_4 : w26.cell? ⟨gb243,4,none⟩ = some (.string (⟨#[]⟩ : ByteArray)) := (Zg BK243.out 4).trans rfl;have hfz27_0 := Zh BK243.out 0;have hfz27_1 := Zh BK243.out 1;have hfz27_2 := Zh BK243.out 2;have hfz27_3 := Zh BK243.out 3;have hfz27_4 := Zh BK243.out 4))
   refine bodyPost_ret (XP rfl _ _ gb243 49 #[.int .i64 0,.int .i64 0,.int .i64 0,.int .i64 0,.string (⟨#[]⟩ : ByteArray)] (0,0) _ rfl (by (with_reducible repeat (first | refine Zl ?_ _ | refine Zn ?_ | refine Zk ?_ _));refine Z8 (cs := #[.int .i64 0,.int .i64 0,.int .i64 0,.int .i64 0,.string (⟨#[]⟩ : ByteArray)]) ?_ 4 _ rfl;(with_reducible repeat (first | refine Zl ?_ _ | refine Zn ?_ | refine Zk ?_ _));refine Z8 (cs := #[.int .i64 0,.int .i64 0,.int .i64 0,.int .i64 0,.string (⟨#[]⟩ : ByteArray)]) ?_ 3 _ rfl;(with_reducible repeat (first | refine Zl ?_ _ | refine Zn ?_ | refine Zk ?_ _));refine Z8 (cs := #[.int .i64 0,.int .i64 0,.int .i64 0,.int .i64 0,.string (⟨#[]⟩ : ByteArray)]) ?_ 2 _ rfl;(with_reducible repeat (first | refine Zl ?_ _ | refine Zn ?_ | refine Zk ?_ _));refine Z8 (cs := #[.int .i64 0,.int .i64 0,.int .i64 0,.int .i64 0,.string (⟨#[]⟩ : ByteArray)]) ?_ 1 _ rfl;(with_reducible repeat (first | refine Zl ?_ _ | refine Zn ?_ | refine Zk ?_ _));refine Z8 (cs := #[.int .i64 0,.int .i64 0,.int .i64 0,.int .i64 0,.string (⟨#[]⟩ : ByteArray)]) ?_ 0 _ rfl;(with_reducible repeat (first | refine Zl ?_ _ | refine Zn ?_ | refine Zk ?_ _));exact BK243.out) Try.underlying49 rfl (by kernel_rfl)) rfl ?_;exact ⟨by first | rfl | (simp [Zu,Zt] <;> rfl) | (simp [*,Zu,Zt] <;> rfl),by repeat (first | (with_reducible first | exact HB.out | apply Zf | apply Za | apply Zd | refine Zo ?_ GE242.out | refine Zo ?_ GE243.out) | exact HB.out)⟩
end Go.Proofs.Ythbajahklnpkcaa.PA

namespace Go.Proofs.Ythbajahklnpkcaa.PA
open Go.RowKit Go.Proofs.YthbajahklnpkcaaW.PrintWords Go.Proofs.YthbajahklnpkcaaW.PrintLast Go.Proofs.YthbajahklnpkcaaW.PrintMore
attribute [local go_sem] ZK ZL ZR ZU ZD ZC ZM ZN
set_option linter.unusedVariables false
set_option linter.unusedSimpArgs false
attribute [local go_sem high] eqA43
def X6.f  : Option (Bool) := (Xc.f (([(⟨0,0,2,2⟩ : S43),(⟨1,1,2,2⟩ : S43)] : List (S43)))).bind fun bt254 => (if bt254.2 = 0 then (if (bt254.1.length : Int) = 3 then (if 1 < (bt254.1.length : Int) then (if (!(((Ze bt254.1 1).f0) == 0) || (!(((Ze bt254.1 1).f1) == 1) || (!(((Ze bt254.1 1).f2) == 3) || (!(((Ze bt254.1 1).f3) == 1))))) = true then (some false) else ((Xo.f 1 0 2 2 (⟨#[97,98,99,100]⟩ : ByteArray) 1).bind fun bt259 => (if bt259.2.2.2.2.2 = 0 then (if (bt259.2.2.2.2.1.size : Int) = 16 then (if 0 ≤ 2 then (if 2 ≤ (bt259.2.2.2.2.1.size : Int) then (if (bt259.2.2.2.2.1.extract 0 2).toList = ([97,98] : List UInt8) then (if 4 ≤ 6 then (if 6 ≤ (bt259.2.2.2.2.1.size : Int) then (some ((bt259.2.2.2.2.1.extract 4 6).toList == ([99,100] : List UInt8))) else (none)) else (none)) else (some false)) else (none)) else (none)) else (some false)) else (some false)))) else (none)) else (some false)) else (some false))
set_option maxHeartbeats 8000000 in
set_option maxRecDepth 100000 in
theorem X6.calls  (r : Bool) (w : World) (h : X6.f  = some r) :
 Calls Try.prog 10 #[] w fun e w' => e = .returned (.bool r) ∧ Below w.heap.size w w' := by
 have hu43 := Try.underlying43;have hu49 := Try.underlying49;have HB := Zb.mk (Below.refl w.heap.size w);have H : ((Xc.f (([(⟨0,0,2,2⟩ : S43),(⟨1,1,2,2⟩ : S43)] : List (S43)))).bind fun bt254 => (if bt254.2 = 0 then (if (bt254.1.length : Int) = 3 then (if 1 < (bt254.1.length : Int) then (if (!(((Ze bt254.1 1).f0) == 0) || (!(((Ze bt254.1 1).f1) == 1) || (!(((Ze bt254.1 1).f2) == 3) || (!(((Ze bt254.1 1).f3) == 1))))) = true then (some false) else ((Xo.f 1 0 2 2 (⟨#[97,98,99,100]⟩ : ByteArray) 1).bind fun bt259 => (if bt259.2.2.2.2.2 = 0 then (if (bt259.2.2.2.2.1.size : Int) = 16 then (if 0 ≤ 2 then (if 2 ≤ (bt259.2.2.2.2.1.size : Int) then (if (bt259.2.2.2.2.1.extract 0 2).toList = ([97,98] : List UInt8) then (if 4 ≤ 6 then (if 6 ≤ (bt259.2.2.2.2.1.size : Int) then (some ((bt259.2.2.2.2.1.extract 4 6).toList == ([99,100] : List UInt8))) else (none)) else (none)) else (some false)) else (none)) else (none)) else (some false)) else (some false)))) else (none)) else (some false)) else (some false))) = some r := h;clear h
 obtain ⟨y251,hy251⟩ : ∃ y_ : List (S43),y_ = (([(⟨0,0,2,2⟩ : S43),(⟨1,1,2,2⟩ : S43)] : List (S43))) := ⟨_,rfl⟩
 replace H : ((Xc.f y251).bind fun bt254 => (if bt254.2 = 0 then (if (bt254.1.length : Int) = 3 then (if 1 < (bt254.1.length : Int) then (if (!(((Ze bt254.1 1).f0) == 0) || (!(((Ze bt254.1 1).f1) == 1) || (!(((Ze bt254.1 1).f2) == 3) || (!(((Ze bt254.1 1).f3) == 1))))) = true then (some false) else ((Xo.f 1 0 2 2 (⟨#[97,98,99,100]⟩ : ByteArray) 1).bind fun bt259 => (if bt259.2.2.2.2.2 = 0 then (if (bt259.2.2.2.2.1.size : Int) = 16 then (if 0 ≤ 2 then (if 2 ≤ (bt259.2.2.2.2.1.size : Int) then (if (bt259.2.2.2.2.1.extract 0 2).toList = ([97,98] : List UInt8) then (if 4 ≤ 6 then (if 6 ≤ (bt259.2.2.2.2.1.size : Int) then (some ((bt259.2.2.2.2.1.extract 4 6).toList == ([99,100] : List UInt8))) else (none)) else (none)) else (some false)) else (none)) else (none)) else (some false)) else (some false)))) else (none)) else (some false)) else (some false))) = some r := by first | (rw [hy251];with_reducible exact H) | (have H2_ := (Option.bind_some _ _).symm.trans H;rw [hy251];with_reducible exact H2_) | (have H2_ := (Option.bind_some _ _).symm.trans H;with_reducible exact H2_) | with_reducible exact H | (rw [hy251];exact H) | exact H
 have Ny251 := Zb.mk hy251;clear hy251;replace H := Option.bind_eq_some_iff.mp H;obtain ⟨⟨t254,t255⟩,A10,H⟩ := H;replace H : (if t255 = 0 then (if (t254.length : Int) = 3 then (if 1 < (t254.length : Int) then (if (!(((Ze t254 1).f0) == 0) || (!(((Ze t254 1).f1) == 1) || (!(((Ze t254 1).f2) == 3) || (!(((Ze t254 1).f3) == 1))))) = true then (some false) else ((Xo.f 1 0 2 2 (⟨#[97,98,99,100]⟩ : ByteArray) 1).bind fun bt259 => (if bt259.2.2.2.2.2 = 0 then (if (bt259.2.2.2.2.1.size : Int) = 16 then (if 0 ≤ 2 then (if 2 ≤ (bt259.2.2.2.2.1.size : Int) then (if (bt259.2.2.2.2.1.extract 0 2).toList = ([97,98] : List UInt8) then (if 4 ≤ 6 then (if 6 ≤ (bt259.2.2.2.2.1.size : Int) then (some ((bt259.2.2.2.2.1.extract 4 6).toList == ([99,100] : List UInt8))) else (none)) else (none)) else (some false)) else (none)) else (none)) else (some false)) else (some false)))) else (none)) else (some false)) else (some false)) = some r := H;have A1 := Zb.mk A10;clear A10
 by_cases c2 : t255 = 0
 · rw [if_pos c2] at H
   have c2b0 : (t255 == 0) = true := beq_iff_eq.mpr c2;have c2b1 : (t255 != 0) = false := bne_eq_false_iff_eq.mpr c2;clear c2
   by_cases c3 : (t254.length : Int) = 3
   · rw [if_pos c3] at H
     have c3b0 : ((t254.length : Int) == 3) = true := beq_iff_eq.mpr c3;have c3b1 : ((t254.length : Int) != 3) = false := bne_eq_false_iff_eq.mpr c3;clear c3
     by_cases c4 : 1 < (t254.length : Int)
     · rw [if_pos c4] at H
       have c4b0 : decide (1 < (t254.length : Int)) = true := decide_eq_true c4;have c4b1 : decide (1 < t254.length) = true := decide_eq_true (by omega);clear c4
       by_cases c5 : (!(((Ze t254 1).f0) == 0) || (!(((Ze t254 1).f1) == 1) || (!(((Ze t254 1).f2) == 3) || (!(((Ze t254 1).f3) == 1))))) = true
       · rw [if_pos c5] at H
         have c5b0 : (!(((Ze t254 1).f0) == 0) || (!(((Ze t254 1).f1) == 1) || (!(((Ze t254 1).f2) == 3) || (!(((Ze t254 1).f3) == 1))))) = true := c5;clear c5;obtain rfl := Option.some.inj H
         go_enter Try.func10,Try.ntmps10
         go_wp2_with (first | ((with_reducible refine ZJ (N := 7) rfl ?_);(try (refine XA (by rfl) ?_;dsimp only));refine Kd.R_lit k43 _ 43 ?hg (N := 7) ?hd (xs := ([(⟨0,0,2,2⟩ : S43),(⟨1,1,2,2⟩ : S43)] : List (S43))) (inner := [.int .i64 0,.int .i64 0,.int .i64 2,.int .i64 2,.int .i64 1,.int .i64 1,.int .i64 2,.int .i64 2]) (ok := fun _ => True) (okp := fun _ => True) ?hr ?hp (fun _ hk => hk) trivial (Below.refl _ _) (Nat.le_refl _) (by simp) ?_;(case hd => rfl);(case hg => rfl);(case hr => first | (go_simp;done) | (go_simp;rfl));(case hp => exact (Reps.c4 (show Kd.M k43 _ _ _ (⟨0,0,2,2⟩ : S43) [.int .i64 0,.int .i64 0,.int .i64 2,.int .i64 2] from (Xs _ _ _ (⟨0,0,2,2⟩ : S43) )) (Reps.c4 (show Kd.M k43 _ _ _ (⟨1,1,2,2⟩ : S43) [.int .i64 1,.int .i64 1,.int .i64 2,.int .i64 2] from (Xs _ _ _ (⟨1,1,2,2⟩ : S43) )) (Reps.none _ _))));intro v252 w6 ho7 hb hg_ hnew_;clear hg_ hnew_;(first | rw [← Ny251.out] at ho7 | (simp only [Int.reduceToNat] at ho7;rw [← Ny251.out] at ho7));have n0_ := Zb.mk (Kd.Xd ho7 (Zp (by repeat (first | (with_reducible first | exact HB.out | apply Zf | apply Za | apply Zd) | exact HB.out))));have n1_ := Zb.mk (Zr (by repeat (first | (with_reducible first | exact HB.out | apply Zf | apply Za | apply Zd) | exact HB.out)) hb);clear HB;have HO253 := n0_;have HB := n1_;clear n0_ n1_;clear hb ho7;obtain ⟨Ao8,co8,eo8⟩ := Kd.ZS HO253.out;subst eo8) | ((with_reducible refine Zw (f := 20) rfl ?_);refine ZP (some 8) rfl rfl Try.func20 (by kernel_rfl) rfl #[.slice Ao8 y251.length co8] rfl (by (try simp only [List.map_toArray,List.map_cons,List.map_nil]);first | done | rfl | (simp only [List.length_drop,List.length_take];rfl)) ?_;(with_reducible refine (Xc.calls _ _ y251 t254 t255 _ ?side1 ?side2 A1.out).mono ?_);(case side1 => repeat (first | exact (Kd.Z3 HO253.out).2.2 | (with_reducible refine Kd.Z9 ?_ _) | (with_reducible refine Kd.ZA ?_ _) | (with_reducible refine Kd.ZO ?_)));(case side2 => exact (Kd.Z3 HO253.out).2.1);rintro e w9 ⟨v256,rfl,ho0,hb⟩;refine ⟨_,rfl,?_⟩;have n0_ := Zb.mk (Kd.Xa (by (with_reducible repeat (first | apply Kd.Zj | apply Kd.Zi | apply Kd.Zm));exact HO253.out) hb);have n1_ := Zb.mk (Kd.Xd ho0 (Zp (by repeat (first | (with_reducible first | exact HB.out | apply Zf | apply Za | apply Zd) | exact HB.out))));have n2_ := Zb.mk (Zr (by repeat (first | (with_reducible first | exact HB.out | apply Zf | apply Za | apply Zd) | exact HB.out)) hb);clear HO253;clear HB;have HO253 := n0_;have HO257 := n1_;have HB := n2_;clear n0_ n1_ n2_;(try clear hb);(try clear hb2);(try clear hk);(try clear hi);(try clear ho0);obtain ⟨Ao10,co10,eo10⟩ := Kd.ZS HO257.out;subst eo10;have p258 : 0 ≤ (1 : Int) := (by omega);have q258 : 1 < (t254.length : Int) := of_decide_eq_true (by first | (with_reducible assumption) | assumption);obtain ⟨ad258,e258,hx258_0,hx258_1,hx258_2,hx258_3⟩ := Z4 (Kd.Z3 HO257.out).2.2 1 p258 q258;cases e258;(try simp only [show (1 : Int).toNat = 1 from rfl,Nat.reduceMul,Nat.reduceEqDiff,Go.Addr.add,↓reduceIte] at hx258_0);(try simp only [show (1 : Int).toNat = 1 from rfl,Nat.reduceMul,Nat.reduceEqDiff,Go.Addr.add,↓reduceIte] at hx258_1);(try simp only [show (1 : Int).toNat = 1 from rfl,Nat.reduceMul,Nat.reduceEqDiff,Go.Addr.add,↓reduceIte] at hx258_2);(try simp only [show (1 : Int).toNat = 1 from rfl,Nat.reduceMul,Nat.reduceEqDiff,Go.Addr.add,↓reduceIte] at hx258_3);have qi258 : (1 < t254.length) = True := eq_true (by omega);(try rw [show ((1 : Int)).toNat = 1 from rfl] at hx258_0);(try rw [show 1 * 4 = 4 from rfl] at hx258_0);(try rw [show ((1 : Int)).toNat = 1 from rfl] at hx258_1);(try rw [show 1 * 4 = 4 from rfl] at hx258_1);(try rw [show ((1 : Int)).toNat = 1 from rfl] at hx258_2);(try rw [show 1 * 4 = 4 from rfl] at hx258_2);(try rw [show ((1 : Int)).toNat = 1 from rfl] at hx258_3);(try rw [show 1 * 4 = 4 from rfl] at hx258_3);replace p258 := eq_true p258;replace q258 := eq_true q258))
         go_ret;exact ⟨by first | rfl | (simp [Zu,Zt] <;> rfl) | (simp [*,Zu,Zt] <;> rfl),by repeat (first | (with_reducible first | exact HB.out | apply Zf | apply Za | apply Zd) | exact HB.out)⟩
       · rw [if_neg c5] at H
         have c5b0 : (!(((Ze t254 1).f0) == 0) || (!(((Ze t254 1).f1) == 1) || (!(((Ze t254 1).f2) == 3) || (!(((Ze t254 1).f3) == 1))))) = false := by simpa using c5
         clear c5;replace H := Option.bind_eq_some_iff.mp H;obtain ⟨⟨t259,t260,t261,t262,t263,t264⟩,A110,H⟩ := H;replace H : (if t264 = 0 then (if (t263.size : Int) = 16 then (if 0 ≤ 2 then (if 2 ≤ (t263.size : Int) then (if (t263.extract 0 2).toList = ([97,98] : List UInt8) then (if 4 ≤ 6 then (if 6 ≤ (t263.size : Int) then (some ((t263.extract 4 6).toList == ([99,100] : List UInt8))) else (none)) else (none)) else (some false)) else (none)) else (none)) else (some false)) else (some false)) = some r := H;have A11 := Zb.mk A110;clear A110
         by_cases c12 : t264 = 0
         · rw [if_pos c12] at H
           have c12b0 : (t264 == 0) = true := beq_iff_eq.mpr c12;have c12b1 : (t264 != 0) = false := bne_eq_false_iff_eq.mpr c12;clear c12
           by_cases c13 : (t263.size : Int) = 16
           · rw [if_pos c13] at H
             have c13b0 : ((t263.size : Int) == 16) = true := beq_iff_eq.mpr c13;have c13b1 : ((t263.size : Int) != 16) = false := bne_eq_false_iff_eq.mpr c13;clear c13
             by_cases c14 : 0 ≤ 2
             · rw [if_pos c14] at H
               have c14b0 := eq_true c14;have c14b1 : decide (0 ≤ 2) = true := decide_eq_true c14;clear c14
               by_cases c15 : 2 ≤ (t263.size : Int)
               · rw [if_pos c15] at H
                 have c15b0 := eq_true c15;have c15b1 : decide (2 ≤ (t263.size : Int)) = true := decide_eq_true c15;clear c15
                 by_cases c16 : (t263.extract 0 2).toList = ([97,98] : List UInt8)
                 · rw [if_pos c16] at H
                   have c16b0 : ((t263.extract 0 2).toList == ([97,98] : List UInt8)) = true := beq_iff_eq.mpr c16;have c16b1 : ((t263.extract 0 2).toList != ([97,98] : List UInt8)) = false := bne_eq_false_iff_eq.mpr c16;clear c16
                   by_cases c17 : 4 ≤ 6
                   · rw [if_pos c17] at H
                     have c17b0 := eq_true c17;have c17b1 : decide (4 ≤ 6) = true := decide_eq_true c17;clear c17
                     by_cases c18 : 6 ≤ (t263.size : Int)
                     · rw [if_pos c18] at H
                       have c18b0 := eq_true c18;have c18b1 : decide (6 ≤ (t263.size : Int)) = true := decide_eq_true c18;clear c18;obtain rfl := Option.some.inj H
                       go_enter Try.func10,Try.ntmps10
                       go_wp2_with (first | ((with_reducible refine ZJ (N := 7) rfl ?_);(try (refine XA (by rfl) ?_;dsimp only));refine Kd.R_lit k43 _ 43 ?hg (N := 7) ?hd (xs := ([(⟨0,0,2,2⟩ : S43),(⟨1,1,2,2⟩ : S43)] : List (S43))) (inner := [.int .i64 0,.int .i64 0,.int .i64 2,.int .i64 2,.int .i64 1,.int .i64 1,.int .i64 2,.int .i64 2]) (ok := fun _ => True) (okp := fun _ => True) ?hr ?hp (fun _ hk => hk) trivial (Below.refl _ _) (Nat.le_refl _) (by simp) ?_;(case hd => rfl);(case hg => rfl);(case hr => first | (go_simp;done) | (go_simp;rfl));(case hp => exact (Reps.c4 (show Kd.M k43 _ _ _ (⟨0,0,2,2⟩ : S43) [.int .i64 0,.int .i64 0,.int .i64 2,.int .i64 2] from (Xs _ _ _ (⟨0,0,2,2⟩ : S43) )) (Reps.c4 (show Kd.M k43 _ _ _ (⟨1,1,2,2⟩ : S43) [.int .i64 1,.int .i64 1,.int .i64 2,.int .i64 2] from (Xs _ _ _ (⟨1,1,2,2⟩ : S43) )) (Reps.none _ _))));intro v252 w19 ho20 hb hg_ hnew_;clear hg_ hnew_;(first | rw [← Ny251.out] at ho20 | (simp only [Int.reduceToNat] at ho20;rw [← Ny251.out] at ho20));have n0_ := Zb.mk (Kd.Xd ho20 (Zp (by repeat (first | (with_reducible first | exact HB.out | apply Zf | apply Za | apply Zd) | exact HB.out))));have n1_ := Zb.mk (Zr (by repeat (first | (with_reducible first | exact HB.out | apply Zf | apply Za | apply Zd) | exact HB.out)) hb);clear HB;have HO253 := n0_;have HB := n1_;clear n0_ n1_;clear hb ho20;obtain ⟨Ao21,co21,eo21⟩ := Kd.ZS HO253.out;subst eo21) | ((with_reducible refine Zw (f := 20) rfl ?_);refine ZP (some 8) rfl rfl Try.func20 (by kernel_rfl) rfl #[.slice Ao21 y251.length co21] rfl (by (try simp only [List.map_toArray,List.map_cons,List.map_nil]);first | done | rfl | (simp only [List.length_drop,List.length_take];rfl)) ?_;(with_reducible refine (Xc.calls _ _ y251 t254 t255 _ ?side1 ?side2 A1.out).mono ?_);(case side1 => repeat (first | exact (Kd.Z3 HO253.out).2.2 | (with_reducible refine Kd.Z9 ?_ _) | (with_reducible refine Kd.ZA ?_ _) | (with_reducible refine Kd.ZO ?_)));(case side2 => exact (Kd.Z3 HO253.out).2.1);rintro e w22 ⟨v256,rfl,ho0,hb⟩;refine ⟨_,rfl,?_⟩;have n0_ := Zb.mk (Kd.Xa (by (with_reducible repeat (first | apply Kd.Zj | apply Kd.Zi | apply Kd.Zm));exact HO253.out) hb);have n1_ := Zb.mk (Kd.Xd ho0 (Zp (by repeat (first | (with_reducible first | exact HB.out | apply Zf | apply Za | apply Zd) | exact HB.out))));have n2_ := Zb.mk (Zr (by repeat (first | (with_reducible first | exact HB.out | apply Zf | apply Za | apply Zd) | exact HB.out)) hb);clear HO253;clear HB;have HO253 := n0_;have HO257 := n1_;have HB := n2_;clear n0_ n1_ n2_;(try clear hb);(try clear hb2);(try clear hk);(try clear hi);(try clear ho0);obtain ⟨Ao23,co23,eo23⟩ := Kd.ZS HO257.out;subst eo23;have p258 : 0 ≤ (1 : Int) := (by omega);have q258 : 1 < (t254.length : Int) := of_decide_eq_true (by first | (with_reducible assumption) | assumption);obtain ⟨ad258,e258,hx258_0,hx258_1,hx258_2,hx258_3⟩ := Z4 (Kd.Z3 HO257.out).2.2 1 p258 q258;cases e258;(try simp only [show (1 : Int).toNat = 1 from rfl,Nat.reduceMul,Nat.reduceEqDiff,Go.Addr.add,↓reduceIte] at hx258_0);(try simp only [show (1 : Int).toNat = 1 from rfl,Nat.reduceMul,Nat.reduceEqDiff,Go.Addr.add,↓reduceIte] at hx258_1);(try simp only [show (1 : Int).toNat = 1 from rfl,Nat.reduceMul,Nat.reduceEqDiff,Go.Addr.add,↓reduceIte] at hx258_2);(try simp only [show (1 : Int).toNat = 1 from rfl,Nat.reduceMul,Nat.reduceEqDiff,Go.Addr.add,↓reduceIte] at hx258_3);have qi258 : (1 < t254.length) = True := eq_true (by omega);(try rw [show ((1 : Int)).toNat = 1 from rfl] at hx258_0);(try rw [show 1 * 4 = 4 from rfl] at hx258_0);(try rw [show ((1 : Int)).toNat = 1 from rfl] at hx258_1);(try rw [show 1 * 4 = 4 from rfl] at hx258_1);(try rw [show ((1 : Int)).toNat = 1 from rfl] at hx258_2);(try rw [show 1 * 4 = 4 from rfl] at hx258_2);(try rw [show ((1 : Int)).toNat = 1 from rfl] at hx258_3);(try rw [show 1 * 4 = 4 from rfl] at hx258_3);replace p258 := eq_true p258;replace q258 := eq_true q258) | ((with_reducible refine Zw (f := 42) rfl ?_);refine ZP (some 27) rfl rfl Try.func42 (by kernel_rfl) rfl #[.agg #[.int .i64 1,.int .i64 0,.int .i64 2,.int .i64 2,.string (⟨#[97,98,99,100]⟩ : ByteArray)],.int .i64 1] rfl (by (try simp only [List.map_toArray,List.map_cons,List.map_nil]);first | done | rfl | (simp only [List.length_drop,List.length_take];rfl)) ?_;(with_reducible refine (Xo.calls 1 0 2 2 (⟨#[97,98,99,100]⟩ : ByteArray) 1 t259 t260 t261 t262 t263 t264 _ A11.out).mono ?_);rintro e w24 ⟨rfl,hb⟩;refine ⟨_,rfl,?_⟩;have n0_ := Zb.mk (Kd.Xa (by (with_reducible repeat (first | apply Kd.Zj | apply Kd.Zi | apply Kd.Zm));exact HO253.out) hb);have n1_ := Zb.mk (Kd.Xa (by (with_reducible repeat (first | apply Kd.Zj | apply Kd.Zi | apply Kd.Zm));exact HO257.out) hb);have n2_ := Zb.mk (Zr (by repeat (first | (with_reducible first | exact HB.out | apply Zf | apply Za | apply Zd) | exact HB.out)) hb);clear HO253;clear HO257;clear HB;have HO253 := n0_;have HO257 := n1_;have HB := n2_;clear n0_ n1_ n2_;(try clear hb);(try clear hb2);(try clear hk);(try clear hi)) | ((with_reducible refine ZJ (N := 3) rfl ?_);(try (refine XA (by rfl) ?_;dsimp only));refine ZI ?hg (N := 3) ?hd (cs := #[.int .i64 0,.int .i64 0,.int .i64 0,.int .i64 0,.string (⟨#[]⟩ : ByteArray)]) (t := 49) ?hr ?_;(case hd => rfl);(case hg => rfl);(case hr => first | (go_simp;done) | (go_simp;rfl));intro gb265 hg w25 hbox hb;have n0_ := Zb.mk (Kd.Xa (by (with_reducible repeat (first | apply Kd.Zj | apply Kd.Zi | apply Kd.Zm));exact HO253.out) hb);have n1_ := Zb.mk (Kd.Xa (by (with_reducible repeat (first | apply Kd.Zj | apply Kd.Zi | apply Kd.Zm));exact HO257.out) hb);have n2_ := Zb.mk (Zr (by repeat (first | (with_reducible first | exact HB.out | apply Zf | apply Za | apply Zd) | exact HB.out)) hb);have n3_ := Zb.mk (hbox);have n4_ := Zb.mk ((by rw [hg];exact (Zp (by repeat (first | (with_reducible first | exact HB.out | apply Zf | apply Za | apply Zd) | exact HB.out))) : w.heap.size ≤ gb265));have n5_ := Zb.mk ((by rw [hg];exact (Zp (by repeat (first | (with_reducible first | exact HB.out | apply Zf | apply Za | apply Zd) | exact HB.out))) : w.heap.size ≤ gb265));clear HO253;clear HO257;clear HB;have HO253 := n0_;have HO257 := n1_;have HB := n2_;have BK265 := n3_;have GW265 := n4_;have GE265 := n5_;clear n0_ n1_ n2_ n3_ n4_ n5_;clear hb hbox hg;have hcz26_0 : w25.cell? ⟨gb265,0,none⟩ = some (.int .i64 0) := (Zg BK265.out 0).trans rfl;have hcz26_1 : w25.cell? ⟨gb265,1,none⟩ = some (.int .i64 0) := (Zg BK265.out 1).trans rfl;have hcz26_2 : w25.cell? ⟨gb265,2,none⟩ = some (.int .i64 0) := (Zg BK265.out 2).trans rfl;have hcz26_3 : w25.cell? ⟨gb265,3,none⟩ = some (.int .i64 0) := (Zg BK265.out 3).trans rfl;have hcz26_4 : w25.cell? ⟨gb265,4,none⟩ = some (.string (⟨#[]⟩ : ByteArray)) := (Zg BK265.out 4).trans rfl;have hfz26_0 := Zh BK265.out 0;have hfz26_1 := Zh BK265.out 1;have hfz26_2 := Zh BK265.out 2;have hfz26_3 := Zh BK265.out 3;have hfz26_4 := Zh BK265.out 4))
                       go_ret;exact ⟨by first | rfl | (simp [Zu,Zt] <;> rfl) | (simp [*,Zu,Zt] <;> rfl),by repeat (first | (with_reducible first | exact HB.out | apply Zf | apply Za | apply Zd | refine Zo ?_ GE265.out) | exact HB.out)⟩
                     · rw [if_neg c18] at H
                       exact absurd H (by simp)
                   · rw [if_neg c17] at H
                     exact absurd H (by simp)
                 · rw [if_neg c16] at H
                   have c16b0 : ((t263.extract 0 2).toList == ([97,98] : List UInt8)) = false := beq_eq_false_iff_ne.mpr c16;have c16b1 : ((t263.extract 0 2).toList != ([97,98] : List UInt8)) = true := bne_iff_ne.mpr c16;obtain rfl := Option.some.inj H
                   go_enter Try.func10,Try.ntmps10
                   go_wp2_with (first | ((with_reducible refine ZJ (N := 7) rfl ?_);(try (refine XA (by rfl) ?_;dsimp only));refine Kd.R_lit k43 _ 43 ?hg (N := 7) ?hd (xs := ([(⟨0,0,2,2⟩ : S43),(⟨1,1,2,2⟩ : S43)] : List (S43))) (inner := [.int .i64 0,.int .i64 0,.int .i64 2,.int .i64 2,.int .i64 1,.int .i64 1,.int .i64 2,.int .i64 2]) (ok := fun _ => True) (okp := fun _ => True) ?hr ?hp (fun _ hk => hk) trivial (Below.refl _ _) (Nat.le_refl _) (by simp) ?_;(case hd => rfl);(case hg => rfl);(case hr => first | (go_simp;done) | (go_simp;rfl));(case hp => exact (Reps.c4 (show Kd.M k43 _ _ _ (⟨0,0,2,2⟩ : S43) [.int .i64 0,.int .i64 0,.int .i64 2,.int .i64 2] from (Xs _ _ _ (⟨0,0,2,2⟩ : S43) )) (Reps.c4 (show Kd.M k43 _ _ _ (⟨1,1,2,2⟩ : S43) [.int .i64 1,.int .i64 1,.int .i64 2,.int .i64 2] from (Xs _ _ _ (⟨1,1,2,2⟩ : S43) )) (Reps.none _ _))));intro v252 w27 ho28 hb hg_ hnew_;clear hg_ hnew_;(first | rw [← Ny251.out] at ho28 | (simp only [Int.reduceToNat] at ho28;rw [← Ny251.out] at ho28));have n0_ := Zb.mk (Kd.Xd ho28 (Zp (by repeat (first | (with_reducible first | exact HB.out | apply Zf | apply Za | apply Zd) | exact HB.out))));have n1_ := Zb.mk (Zr (by repeat (first | (with_reducible first | exact HB.out | apply Zf | apply Za | apply Zd) | exact HB.out)) hb);clear HB;have HO253 := n0_;have HB := n1_;clear n0_ n1_;clear hb ho28;obtain ⟨Ao29,co29,eo29⟩ := Kd.ZS HO253.out;subst eo29) | ((with_reducible refine Zw (f := 20) rfl ?_);refine ZP (some 8) rfl rfl Try.func20 (by kernel_rfl) rfl #[.slice Ao29 y251.length co29] rfl (by (try simp only [List.map_toArray,List.map_cons,List.map_nil]);first | done | rfl | (simp only [List.length_drop,List.length_take];rfl)) ?_;(with_reducible refine (Xc.calls _ _ y251 t254 t255 _ ?side1 ?side2 A1.out).mono ?_);(case side1 => repeat (first | exact (Kd.Z3 HO253.out).2.2 | (with_reducible refine Kd.Z9 ?_ _) | (with_reducible refine Kd.ZA ?_ _) | (with_reducible refine Kd.ZO ?_)));(case side2 => exact (Kd.Z3 HO253.out).2.1);rintro e w30 ⟨v256,rfl,ho0,hb⟩;refine ⟨_,rfl,?_⟩;have n0_ := Zb.mk (Kd.Xa (by (with_reducible repeat (first | apply Kd.Zj | apply Kd.Zi | apply Kd.Zm));exact HO253.out) hb);have n1_ := Zb.mk (Kd.Xd ho0 (Zp (by repeat (first | (with_reducible first | exact HB.out | apply Zf | apply Za | apply Zd) | exact HB.out))));have n2_ := Zb.mk (Zr (by repeat (first | (with_reducible first | exact HB.out | apply Zf | apply Za | apply Zd) | exact HB.out)) hb);clear HO253;clear HB;have HO253 := n0_;have HO257 := n1_;have HB := n2_;clear n0_ n1_ n2_;(try clear hb);(try clear hb2);(try clear hk);(try clear hi);(try clear ho0);obtain ⟨Ao31,co31,eo31⟩ := Kd.ZS HO257.out;subst eo31;have p258 : 0 ≤ (1 : Int) := (by omega);have q258 : 1 < (t254.length : Int) := of_decide_eq_true (by first | (with_reducible assumption) | assumption);obtain ⟨ad258,e258,hx258_0,hx258_1,hx258_2,hx258_3⟩ := Z4 (Kd.Z3 HO257.out).2.2 1 p258 q258;cases e258;(try simp only [show (1 : Int).toNat = 1 from rfl,Nat.reduceMul,Nat.reduceEqDiff,Go.Addr.add,↓reduceIte] at hx258_0);(try simp only [show (1 : Int).toNat = 1 from rfl,Nat.reduceMul,Nat.reduceEqDiff,Go.Addr.add,↓reduceIte] at hx258_1);(try simp only [show (1 : Int).toNat = 1 from rfl,Nat.reduceMul,Nat.reduceEqDiff,Go.Addr.add,↓reduceIte] at hx258_2);(try simp only [show (1 : Int).toNat = 1 from rfl,Nat.reduceMul,Nat.reduceEqDiff,Go.Addr.add,↓reduceIte] at hx258_3);have qi258 : (1 < t254.length) = True := eq_true (by omega);(try rw [show ((1 : Int)).toNat = 1 from rfl] at hx258_0);(try rw [show 1 * 4 = 4 from rfl] at hx258_0);(try rw [show ((1 : Int)).toNat = 1 from rfl] at hx258_1);(try rw [show 1 * 4 = 4 from rfl] at hx258_1);(try rw [show ((1 : Int)).toNat = 1 from rfl] at hx258_2);(try rw [show 1 * 4 = 4 from rfl] at hx258_2);(try rw [show ((1 : Int)).toNat = 1 from rfl] at hx258_3);(try rw [show 1 * 4 = 4 from rfl] at hx258_3);replace p258 := eq_true p258;replace q258 := eq_true q258) | ((with_reducible refine Zw (f := 42) rfl ?_);refine ZP (some 27) rfl rfl Try.func42 (by kernel_rfl) rfl #[.agg #[.int .i64 1,.int .i64 0,.int .i64 2,.int .i64 2,.string (⟨#[97,98,99,100]⟩ : ByteArray)],.int .i64 1] rfl (by (try simp only [List.map_toArray,List.map_cons,List.map_nil]);first | done | rfl | (simp only [List.length_drop,List.length_take];rfl)) ?_;(with_reducible refine (Xo.calls 1 0 2 2 (⟨#[97,98,99,100]⟩ : ByteArray) 1 t259 t260 t261 t262 t263 t264 _ A11.out).mono ?_);rintro e w32 ⟨rfl,hb⟩;refine ⟨_,rfl,?_⟩;have n0_ := Zb.mk (Kd.Xa (by (with_reducible repeat (first | apply Kd.Zj | apply Kd.Zi | apply Kd.Zm));exact HO253.out) hb);have n1_ := Zb.mk (Kd.Xa (by (with_reducible repeat (first | apply Kd.Zj | apply Kd.Zi | apply Kd.Zm));exact HO257.out) hb);have n2_ := Zb.mk (Zr (by repeat (first | (with_reducible first | exact HB.out | apply Zf | apply Za | apply Zd) | exact HB.out)) hb);clear HO253;clear HO257;clear HB;have HO253 := n0_;have HO257 := n1_;have HB := n2_;clear n0_ n1_ n2_;(try clear hb);(try clear hb2);(try clear hk);(try clear hi)) | ((with_reducible refine ZJ (N := 3) rfl ?_);(try (refine XA (by rfl) ?_;dsimp only));refine ZI ?hg (N := 3) ?hd (cs := #[.int .i64 0,.int .i64 0,.int .i64 0,.int .i64 0,.string (⟨#[]⟩ : ByteArray)]) (t := 49) ?hr ?_;(case hd => rfl);(case hg => rfl);(case hr => first | (go_simp;done) | (go_simp;rfl));intro gb265 hg w33 hbox hb;have n0_ := Zb.mk (Kd.Xa (by (with_reducible repeat (first | apply Kd.Zj | apply Kd.Zi | apply Kd.Zm));exact HO253.out) hb);have n1_ := Zb.mk (Kd.Xa (by (with_reducible repeat (first | apply Kd.Zj | apply Kd.Zi | apply Kd.Zm));exact HO257.out) hb);have n2_ := Zb.mk (Zr (by repeat (first | (with_reducible first | exact HB.out | apply Zf | apply Za | apply Zd) | exact HB.out)) hb);have n3_ := Zb.mk (hbox);have n4_ := Zb.mk ((by rw [hg];exact (Zp (by repeat (first | (with_reducible first | exact HB.out | apply Zf | apply Za | apply Zd) | exact HB.out))) : w.heap.size ≤ gb265));have n5_ := Zb.mk ((by rw [hg];exact (Zp (by repeat (first | (with_reducible first | exact HB.out | apply Zf | apply Za | apply Zd) | exact HB.out))) : w.heap.size ≤ gb265));clear HO253;clear HO257;clear HB;have HO253 := n0_;have HO257 := n1_;have HB := n2_;have BK265 := n3_;have GW265 := n4_;have GE265 := n5_;clear n0_ n1_ n2_ n3_ n4_ n5_;clear hb hbox hg;have hcz34_0 : w33.cell? ⟨gb265,0,none⟩ = some (.int .i64 0) := (Zg BK265.out 0).trans rfl;have hcz34_1 : w33.cell? ⟨gb265,1,none⟩ = some (.int .i64 0) := (Zg BK265.out 1).trans rfl;have hcz34_2 : w33.cell? ⟨gb265,2,none⟩ = some (.int .i64 0) := (Zg BK265.out 2).trans rfl;have hcz34_3 : w33.cell? ⟨gb265,3,none⟩ = some (.int .i64 0) := (Zg BK265.out 3).trans rfl;have hcz34_4 : w33.cell? ⟨gb265,4,none⟩ = some (.string (⟨#[]⟩ : ByteArray)) := (Zg BK265.out 4).trans rfl;have hfz34_0 := Zh BK265.out 0;have hfz34_1 := Zh BK265.out 1;have hfz34_2 := Zh BK265.out 2;have hfz34_3 := Zh BK265.out 3;have hfz34_4 := Zh BK265.out 4))
                   go_ret;exact ⟨by first | rfl | (simp [Zu,Zt] <;> rfl) | (simp [*,Zu,Zt] <;> rfl),by repeat (first | (with_reducible first | exact HB.out | apply Zf | apply Za | apply Zd | refine Zo ?_ GE265.out) | exact HB.out)⟩
               · rw [if_neg c15] at H
                 exact absurd H (by simp)
             · rw [if_neg c14] at H
               exact absurd H (by simp)
           · rw [if_neg c13] at H
             have c13b0 : ((t263.size : Int) == 16) = false := beq_eq_false_iff_ne.mpr c13;have c13b1 : ((t263.size : Int) != 16) = true := bne_iff_ne.mpr c13;obtain rfl := Option.some.inj H
             go_enter Try.func10,Try.ntmps10
             go_wp2_with (first | ((with_reducible refine ZJ (N := 7) rfl ?_);(try (refine XA (by rfl) ?_;dsimp only));refine Kd.R_lit k43 _ 43 ?hg (N := 7) ?hd (xs := ([(⟨0,0,2,2⟩ : S43),(⟨1,1,2,2⟩ : S43)] : List (S43))) (inner := [.int .i64 0,.int .i64 0,.int .i64 2,.int .i64 2,.int .i64 1,.int .i64 1,.int .i64 2,.int .i64 2]) (ok := fun _ => True) (okp := fun _ => True) ?hr ?hp (fun _ hk => hk) trivial (Below.refl _ _) (Nat.le_refl _) (by simp) ?_;(case hd => rfl);(case hg => rfl);(case hr => first | (go_simp;done) | (go_simp;rfl));(case hp => exact (Reps.c4 (show Kd.M k43 _ _ _ (⟨0,0,2,2⟩ : S43) [.int .i64 0,.int .i64 0,.int .i64 2,.int .i64 2] from (Xs _ _ _ (⟨0,0,2,2⟩ : S43) )) (Reps.c4 (show Kd.M k43 _ _ _ (⟨1,1,2,2⟩ : S43) [.int .i64 1,.int .i64 1,.int .i64 2,.int .i64 2] from (Xs _ _ _ (⟨1,1,2,2⟩ : S43) )) (Reps.none _ _))));intro v252 w35 ho36 hb hg_ hnew_;clear hg_ hnew_;(first | rw [← Ny251.out] at ho36 | (simp only [Int.reduceToNat] at ho36;rw [← Ny251.out] at ho36));have n0_ := Zb.mk (Kd.Xd ho36 (Zp (by repeat (first | (with_reducible first | exact HB.out | apply Zf | apply Za | apply Zd) | exact HB.out))));have n1_ := Zb.mk (Zr (by repeat (first | (with_reducible first | exact HB.out | apply Zf | apply Za | apply Zd) | exact HB.out)) hb);clear HB;have HO253 := n0_;have HB := n1_;clear n0_ n1_;clear hb ho36;obtain ⟨Ao37,co37,eo37⟩ := Kd.ZS HO253.out;subst eo37) | ((with_reducible refine Zw (f := 20) rfl ?_);refine ZP (some 8) rfl rfl Try.func20 (by kernel_rfl) rfl #[.slice Ao37 y251.length co37] rfl (by (try simp only [List.map_toArray,List.map_cons,List.map_nil]);first | done | rfl | (simp only [List.length_drop,List.length_take];rfl)) ?_;(with_reducible refine (Xc.calls _ _ y251 t254 t255 _ ?side1 ?side2 A1.out).mono ?_);(case side1 => repeat (first | exact (Kd.Z3 HO253.out).2.2 | (with_reducible refine Kd.Z9 ?_ _) | (with_reducible refine Kd.ZA ?_ _) | (with_reducible refine Kd.ZO ?_)));(case side2 => exact (Kd.Z3 HO253.out).2.1);rintro e w38 ⟨v256,rfl,ho0,hb⟩;refine ⟨_,rfl,?_⟩;have n0_ := Zb.mk (Kd.Xa (by (with_reducible repeat (first | apply Kd.Zj | apply Kd.Zi | apply Kd.Zm));exact HO253.out) hb);have n1_ := Zb.mk (Kd.Xd ho0 (Zp (by repeat (first | (with_reducible first | exact HB.out | apply Zf | apply Za | apply Zd) | exact HB.out))));have n2_ := Zb.mk (Zr (by repeat (first | (with_reducible first | exact HB.out | apply Zf | apply Za | apply Zd) | exact HB.out)) hb);clear HO253;clear HB;have HO253 := n0_;have HO257 := n1_;have HB := n2_;clear n0_ n1_ n2_;(try clear hb);(try clear hb2);(try clear hk);(try clear hi);(try clear ho0);obtain ⟨Ao39,co39,eo39⟩ := Kd.ZS HO257.out;subst eo39;have p258 : 0 ≤ (1 : Int) := (by omega);have q258 : 1 < (t254.length : Int) := of_decide_eq_true (by first | (with_reducible assumption) | assumption);obtain ⟨ad258,e258,hx258_0,hx258_1,hx258_2,hx258_3⟩ := Z4 (Kd.Z3 HO257.out).2.2 1 p258 q258;cases e258;(try simp only [show (1 : Int).toNat = 1 from rfl,Nat.reduceMul,Nat.reduceEqDiff,Go.Addr.add,↓reduceIte] at hx258_0);(try simp only [show (1 : Int).toNat = 1 from rfl,Nat.reduceMul,Nat.reduceEqDiff,Go.Addr.add,↓reduceIte] at hx258_1);(try simp only [show (1 : Int).toNat = 1 from rfl,Nat.reduceMul,Nat.reduceEqDiff,Go.Addr.add,↓reduceIte] at hx258_2);(try simp only [show (1 : Int).toNat = 1 from rfl,Nat.reduceMul,Nat.reduceEqDiff,Go.Addr.add,↓reduceIte] at hx258_3);have qi258 : (1 < t254.length) = True := eq_true (by omega);(try rw [show ((1 : Int)).toNat = 1 from rfl] at hx258_0);(try rw [show 1 * 4 = 4 from rfl] at hx258_0);(try rw [show ((1 : Int)).toNat = 1 from rfl] at hx258_1);(try rw [show 1 * 4 = 4 from rfl] at hx258_1);(try rw [show ((1 : Int)).toNat = 1 from rfl] at hx258_2);(try rw [show 1 * 4 = 4 from rfl] at hx258_2);(try rw [show ((1 : Int)).toNat = 1 from rfl] at hx258_3);(try rw [show 1 * 4 = 4 from rfl] at hx258_3);replace p258 := eq_true p258;replace q258 := eq_true q258) | ((with_reducible refine Zw (f := 42) rfl ?_);refine ZP (some 27) rfl rfl Try.func42 (by kernel_rfl) rfl #[.agg #[.int .i64 1,.int .i64 0,.int .i64 2,.int .i64 2,.string (⟨#[97,98,99,100]⟩ : ByteArray)],.int .i64 1] rfl (by (try simp only [List.map_toArray,List.map_cons,List.map_nil]);first | done | rfl | (simp only [List.length_drop,List.length_take];rfl)) ?_;(with_reducible refine (Xo.calls 1 0 2 2 (⟨#[97,98,99,100]⟩ : ByteArray) 1 t259 t260 t261 t262 t263 t264 _ A11.out).mono ?_);rintro e w40 ⟨rfl,hb⟩;refine ⟨_,rfl,?_⟩;have n0_ := Zb.mk (Kd.Xa (by (with_reducible repeat (first | apply Kd.Zj | apply Kd.Zi | apply Kd.Zm));exact HO253.out) hb);have n1_ := Zb.mk (Kd.Xa (by (with_reducible repeat (first | apply Kd.Zj | apply Kd.Zi | apply Kd.Zm));exact HO257.out) hb);have n2_ := Zb.mk (Zr (by repeat (first | (with_reducible first | exact HB.out | apply Zf | apply Za | apply Zd) | exact HB.out)) hb);clear HO253;clear HO257;clear HB;have HO253 := n0_;have HO257 := n1_;have HB := n2_;clear n0_ n1_ n2_;(try clear hb);(try clear hb2);(try clear hk);(try clear hi)) | ((with_reducible refine ZJ (N := 3) rfl ?_);(try (refine XA (by rfl) ?_;dsimp only));refine ZI ?hg (N := 3) ?hd (cs := #[.int .i64 0,.int .i64 0,.int .i64 0,.int .i64 0,.string (⟨#[]⟩ : ByteArray)]) (t := 49) ?hr ?_;(case hd => rfl);(case hg => rfl);(case hr => first | (go_simp;done) | (go_simp;rfl));intro gb265 hg w41 hbox hb;have n0_ := Zb.mk (Kd.Xa (by (with_reducible repeat (first | apply Kd.Zj | apply Kd.Zi | apply Kd.Zm));exact HO253.out) hb);have n1_ := Zb.mk (Kd.Xa (by (with_reducible repeat (first | apply Kd.Zj | apply Kd.Zi | apply Kd.Zm));exact HO257.out) hb);have n2_ := Zb.mk (Zr (by repeat (first | (with_reducible first | exact HB.out | apply Zf | apply Za | apply Zd) | exact HB.out)) hb);have n3_ := Zb.mk (hbox);have n4_ := Zb.mk ((by rw [hg];exact (Zp (by repeat (first | (with_reducible first | exact HB.out | apply Zf | apply Za | apply Zd) | exact HB.out))) : w.heap.size ≤ gb265));have n5_ := Zb.mk ((by rw [hg];exact (Zp (by repeat (first | (with_reducible first | exact HB.out | apply Zf | apply Za | apply Zd) | exact HB.out))) : w.heap.size ≤ gb265));clear HO253;clear HO257;clear HB;have HO253 := n0_;have HO257 := n1_;have HB := n2_;have BK265 := n3_;have GW265 := n4_;have GE265 := n5_;clear n0_ n1_ n2_ n3_ n4_ n5_;clear hb hbox hg;have hcz42_0 : w41.cell? ⟨gb265,0,none⟩ = some (.int .i64 0) := (Zg BK265.out 0).trans rfl;have hcz42_1 : w41.cell? ⟨gb265,1,none⟩ = some (.int .i64 0) := (Zg BK265.out 1).trans rfl;have hcz42_2 : w41.cell? ⟨gb265,2,none⟩ = some (.int .i64 0) := (Zg BK265.out 2).trans rfl;have hcz42_3 : w41.cell? ⟨gb265,3,none⟩ = some (.int .i64 0) := (Zg BK265.out 3).trans rfl;have hcz42_4 : w41.cell? ⟨gb265,4,none⟩ = some (.string (⟨#[]⟩ : ByteArray)) := (Zg BK265.out 4).trans rfl;have hfz42_0 := Zh BK265.out 0;have hfz42_1 := Zh BK265.out 1;have hfz42_2 := Zh BK265.out 2;have hfz42_3 := Zh BK265.out 3;have hfz42_4 := Zh BK265.out 4))
             go_ret;exact ⟨by first | rfl | (simp [Zu,Zt] <;> rfl) | (simp [*,Zu,Zt] <;> rfl),by repeat (first | (with_reducible first | exact HB.out | apply Zf | apply Za | apply Zd | refine Zo ?_ GE265.out) | exact HB.out)⟩
         · rw [if_neg c12] at H
           have c12b0 : (t264 == 0) = false := beq_eq_false_iff_ne.mpr c12;have c12b1 : (t264 != 0) = true := bne_iff_ne.mpr c12;obtain rfl := Option.some.inj H
           go_enter Try.func10,Try.ntmps10
           go_wp2_with (first | ((with_reducible refine ZJ (N := 7) rfl ?_);(try (refine XA (by rfl) ?_;dsimp only));refine Kd.R_lit k43 _ 43 ?hg (N := 7) ?hd (xs := ([(⟨0,0,2,2⟩ : S43),(⟨1,1,2,2⟩ : S43)] : List (S43))) (inner := [.int .i64 0,.int .i64 0,.int .i64 2,.int .i64 2,.int .i64 1,.int .i64 1,.int .i64 2,.int .i64 2]) (ok := fun _ => True) (okp := fun _ => True) ?hr ?hp (fun _ hk => hk) trivial (Below.refl _ _) (Nat.le_refl _) (by simp) ?_;(case hd => rfl);(case hg => rfl);(case hr => first | (go_simp;done) | (go_simp;rfl));(case hp => exact (Reps.c4 (show Kd.M k43 _ _ _ (⟨0,0,2,2⟩ : S43) [.int .i64 0,.int .i64 0,.int .i64 2,.int .i64 2] from (Xs _ _ _ (⟨0,0,2,2⟩ : S43) )) (Reps.c4 (show Kd.M k43 _ _ _ (⟨1,1,2,2⟩ : S43) [.int .i64 1,.int .i64 1,.int .i64 2,.int .i64 2] from (Xs _ _ _ (⟨1,1,2,2⟩ : S43) )) (Reps.none _ _))));intro v252 w43 ho44 hb hg_ hnew_;clear hg_ hnew_;(first | rw [← Ny251.out] at ho44 | (simp only [Int.reduceToNat] at ho44;rw [← Ny251.out] at ho44));have n0_ := Zb.mk (Kd.Xd ho44 (Zp (by repeat (first | (with_reducible first | exact HB.out | apply Zf | apply Za | apply Zd) | exact HB.out))));have n1_ := Zb.mk (Zr (by repeat (first | (with_reducible first | exact HB.out | apply Zf | apply Za | apply Zd) | exact HB.out)) hb);clear HB;have HO253 := n0_;have HB := n1_;clear n0_ n1_;clear hb ho44;obtain ⟨Ao45,co45,eo45⟩ := Kd.ZS HO253.out;subst eo45) | ((with_reducible refine Zw (f := 20) rfl ?_);refine ZP (some 8) rfl rfl Try.func20 (by kernel_rfl) rfl #[.slice Ao45 y251.length co45] rfl (by (try simp only [List.map_toArray,List.map_cons,List.map_nil]);first | done | rfl | (simp only [List.length_drop,List.length_take];rfl)) ?_;(with_reducible refine (Xc.calls _ _ y251 t254 t255 _ ?side1 ?side2 A1.out).mono ?_);(case side1 => repeat (first | exact (Kd.Z3 HO253.out).2.2 | (with_reducible refine Kd.Z9 ?_ _) | (with_reducible refine Kd.ZA ?_ _) | (with_reducible refine Kd.ZO ?_)));(case side2 => exact (Kd.Z3 HO253.out).2.1);rintro e w46 ⟨v256,rfl,ho0,hb⟩;refine ⟨_,rfl,?_⟩;have n0_ := Zb.mk (Kd.Xa (by (with_reducible repeat (first | apply Kd.Zj | apply Kd.Zi | apply Kd.Zm));exact HO253.out) hb);have n1_ := Zb.mk (Kd.Xd ho0 (Zp (by repeat (first | (with_reducible first | exact HB.out | apply Zf | apply Za | apply Zd) | exact HB.out))));have n2_ := Zb.mk (Zr (by repeat (first | (with_reducible first | exact HB.out | apply Zf | apply Za | apply Zd) | exact HB.out)) hb);clear HO253;clear HB;have HO253 := n0_;have HO257 := n1_;have HB := n2_;clear n0_ n1_ n2_;(try clear hb);(try clear hb2);(try clear hk);(try clear hi);(try clear ho0);obtain ⟨Ao47,co47,eo47⟩ := Kd.ZS HO257.out;subst eo47;have p258 : 0 ≤ (1 : Int) := (by omega);have q258 : 1 < (t254.length : Int) := of_decide_eq_true (by first | (with_reducible assumption) | assumption);obtain ⟨ad258,e258,hx258_0,hx258_1,hx258_2,hx258_3⟩ := Z4 (Kd.Z3 HO257.out).2.2 1 p258 q258;cases e258;(try simp only [show (1 : Int).toNat = 1 from rfl,Nat.reduceMul,Nat.reduceEqDiff,Go.Addr.add,↓reduceIte] at hx258_0);(try simp only [show (1 : Int).toNat = 1 from rfl,Nat.reduceMul,Nat.reduceEqDiff,Go.Addr.add,↓reduceIte] at hx258_1);(try simp only [show (1 : Int).toNat = 1 from rfl,Nat.reduceMul,Nat.reduceEqDiff,Go.Addr.add,↓reduceIte] at hx258_2);(try simp only [show (1 : Int).toNat = 1 from rfl,Nat.reduceMul,Nat.reduceEqDiff,Go.Addr.add,↓reduceIte] at hx258_3);have qi258 : (1 < t254.length) = True := eq_true (by omega);(try rw [show ((1 : Int)).toNat = 1 from rfl] at hx258_0);(try rw [show 1 * 4 = 4 from rfl] at hx258_0);(try rw [show ((1 : Int)).toNat = 1 from rfl] at hx258_1);(try rw [show 1 * 4 = 4 from rfl] at hx258_1);(try rw [show ((1 : Int)).toNat = 1 from rfl] at hx258_2);(try rw [show 1 * 4 = 4 from rfl] at hx258_2);(try rw [show ((1 : Int)).toNat = 1 from rfl] at hx258_3);(try rw [show 1 * 4 = 4 from rfl] at hx258_3);replace p258 := eq_true p258;replace q258 := eq_true q258) | ((with_reducible refine Zw (f := 42) rfl ?_);refine ZP (some 27) rfl rfl Try.func42 (by kernel_rfl) rfl #[.agg #[.int .i64 1,.int .i64 0,.int .i64 2,.int .i64 2,.string (⟨#[97,98,99,100]⟩ : ByteArray)],.int .i64 1] rfl (by (try simp only [List.map_toArray,List.map_cons,List.map_nil]);first | done | rfl | (simp only [List.length_drop,List.length_take];rfl)) ?_;(with_reducible refine (Xo.calls 1 0 2 2 (⟨#[97,98,99,100]⟩ : ByteArray) 1 t259 t260 t261 t262 t263 t264 _ A11.out).mono ?_);rintro e w48 ⟨rfl,hb⟩;refine ⟨_,rfl,?_⟩;have n0_ := Zb.mk (Kd.Xa (by (with_reducible repeat (first | apply Kd.Zj | apply Kd.Zi | apply Kd.Zm));exact HO253.out) hb);have n1_ := Zb.mk (Kd.Xa (by (with_reducible repeat (first | apply Kd.Zj | apply Kd.Zi | apply Kd.Zm));exact HO257.out) hb);have n2_ := Zb.mk (Zr (by repeat (first | (with_reducible first | exact HB.out | apply Zf | apply Za | apply Zd) | exact HB.out)) hb);clear HO253;clear HO257;clear HB;have HO253 := n0_;have HO257 := n1_;have HB := n2_;clear n0_ n1_ n2_;(try clear hb);(try clear hb2);(try clear hk);(try clear hi)) | ((with_reducible refine ZJ (N := 3) rfl ?_);(try (refine XA (by rfl) ?_;dsimp only));refine ZI ?hg (N := 3) ?hd (cs := #[.int .i64 0,.int .i64 0,.int .i64 0,.int .i64 0,.string (⟨#[]⟩ : ByteArray)]) (t := 49) ?hr ?_;(case hd => rfl);(case hg => rfl);(case hr => first | (go_simp;done) | (go_simp;rfl));intro gb265 hg w49 hbox hb;have n0_ := Zb.mk (Kd.Xa (by (with_reducible repeat (first | apply Kd.Zj | apply Kd.Zi | apply Kd.Zm));exact HO253.out) hb);have n1_ := Zb.mk (Kd.Xa (by (with_reducible repeat (first | apply Kd.Zj | apply Kd.Zi | apply Kd.Zm));exact HO257.out) hb);have n2_ := Zb.mk (Zr (by repeat (first | (with_reducible first | exact HB.out | apply Zf | apply Za | apply Zd) | exact HB.out)) hb);have n3_ := Zb.mk (hbox);have n4_ := Zb.mk ((by rw [hg];exact (Zp (by repeat (first | (with_reducible first | exact HB.out | apply Zf | apply Za | apply Zd) | exact HB.out))) : w.heap.size ≤ gb265));have n5_ := Zb.mk ((by rw [hg];exact (Zp (by repeat (first | (with_reducible first | exact HB.out | apply Zf | apply Za | apply Zd) | exact HB.out))) : w.heap.size ≤ gb265));clear HO253;clear HO257;clear HB;have HO253 := n0_;have HO257 := n1_;have HB := n2_;have BK265 := n3_;have GW265 := n4_;have GE265 := n5_;clear n0_ n1_ n2_ n3_ n4_ n5_;clear hb hbox hg;have hcz50_0 : w49.cell? ⟨gb265,0,none⟩ = some (.int .i64 0) := (Zg BK265.out 0).trans rfl;have hcz50_1 : w49.cell? ⟨gb265,1,none⟩ = some (.int .i64 0) := (Zg BK265.out 1).trans rfl;have hcz50_2 : w49.cell? ⟨gb265,2,none⟩ = some (.int .i64 0) := (Zg BK265.out 2).trans rfl;have hcz50_3 : w49.cell? ⟨gb265,3,none⟩ = some (.int .i64 0) := (Zg BK265.out 3).trans rfl;have hcz50_4 : w49.cell? ⟨gb265,4,none⟩ = some (.string (⟨#[]⟩ : ByteArray)) := (Zg BK265.out 4).trans rfl;have hfz50_0 := Zh BK265.out 0;have hfz50_1 := Zh BK265.out 1;have hfz50_2 := Zh BK265.out 2;have hfz50_3 := Zh BK265.out 3;have hfz50_4 := Zh BK265.out 4))
           go_ret;exact ⟨by first | rfl | (simp [Zu,Zt] <;> rfl) | (simp [*,Zu,Zt] <;> rfl),by repeat (first | (with_reducible first | exact HB.out | apply Zf | apply Za | apply Zd | refine Zo ?_ GE265.out) | exact HB.out)⟩
     · rw [if_neg c4] at H
       exact absurd H (by simp)
   · rw [if_neg c3] at H
     have c3b0 : ((t254.length : Int) == 3) = false := beq_eq_false_iff_ne.mpr c3;have c3b1 : ((t254.length : Int) != 3) = true := bne_iff_ne.mpr c3;obtain rfl := Option.some.inj H
     go_enter Try.func10,Try.ntmps10
     go_wp2_with (first | ((with_reducible refine ZJ (N := 7) rfl ?_);(try (refine XA (by rfl) ?_;dsimp only));refine Kd.R_lit k43 _ 43 ?hg (N := 7) ?hd (xs := ([(⟨0,0,2,2⟩ : S43),(⟨1,1,2,2⟩ : S43)] : List (S43))) (inner := [.int .i64 0,.int .i64 0,.int .i64 2,.int .i64 2,.int .i64 1,.int .i64 1,.int .i64 2,.int .i64 2]) (ok := fun _ => True) (okp := fun _ => True) ?hr ?hp (fun _ hk => hk) trivial (Below.refl _ _) (Nat.le_refl _) (by simp) ?_;(case hd => rfl);(case hg => rfl);(case hr => first | (go_simp;done) | (go_simp;rfl));(case hp => exact (Reps.c4 (show Kd.M k43 _ _ _ (⟨0,0,2,2⟩ : S43) [.int .i64 0,.int .i64 0,.int .i64 2,.int .i64 2] from (Xs _ _ _ (⟨0,0,2,2⟩ : S43) )) (Reps.c4 (show Kd.M k43 _ _ _ (⟨1,1,2,2⟩ : S43) [.int .i64 1,.int .i64 1,.int .i64 2,.int .i64 2] from (Xs _ _ _ (⟨1,1,2,2⟩ : S43) )) (Reps.none _ _))));intro v252 w51 ho52 hb hg_ hnew_;clear hg_ hnew_;(first | rw [← Ny251.out] at ho52 | (simp only [Int.reduceToNat] at ho52;rw [← Ny251.out] at ho52));have n0_ := Zb.mk (Kd.Xd ho52 (Zp (by repeat (first | (with_reducible first | exact HB.out | apply Zf | apply Za | apply Zd) | exact HB.out))));have n1_ := Zb.mk (Zr (by repeat (first | (with_reducible first | exact HB.out | apply Zf | apply Za | apply Zd) | exact HB.out)) hb);clear HB;have HO253 := n0_;have HB := n1_;clear n0_ n1_;clear hb ho52;obtain ⟨Ao53,co53,eo53⟩ := Kd.ZS HO253.out;subst eo53) | ((with_reducible refine Zw (f := 20) rfl ?_);refine ZP (some 8) rfl rfl Try.func20 (by kernel_rfl) rfl #[.slice Ao53 y251.length co53] rfl (by (try simp only [List.map_toArray,List.map_cons,List.map_nil]);first | done | rfl | (simp only [List.length_drop,List.length_take];rfl)) ?_;(with_reducible refine (Xc.calls _ _ y251 t254 t255 _ ?side1 ?side2 A1.out).mono ?_);(case side1 => repeat (first | exact (Kd.Z3 HO253.out).2.2 | (with_reducible refine Kd.Z9 ?_ _) | (with_reducible refine Kd.ZA ?_ _) | (with_reducible refine Kd.ZO ?_)));(case side2 => exact (Kd.Z3 HO253.out).2.1);rintro e w54 ⟨v256,rfl,ho0,hb⟩;refine ⟨_,rfl,?_⟩;have n0_ := Zb.mk (Kd.Xa (by (with_reducible repeat (first | apply Kd.Zj | apply Kd.Zi | apply Kd.Zm));exact HO253.out) hb);have n1_ := Zb.mk (Kd.Xd ho0 (Zp (by repeat (first | (with_reducible first | exact HB.out | apply Zf | apply Za | apply Zd) | exact HB.out))));have n2_ := Zb.mk (Zr (by repeat (first | (with_reducible first | exact HB.out | apply Zf | apply Za | apply Zd) | exact HB.out)) hb);clear HO253;clear HB;have HO253 := n0_;have HO257 := n1_;have HB := n2_;clear n0_ n1_ n2_;(try clear hb);(try clear hb2);(try clear hk);(try clear hi);(try clear ho0);obtain ⟨Ao55,co55,eo55⟩ := Kd.ZS HO257.out;subst eo55))
     go_ret;exact ⟨by first | rfl | (simp [Zu,Zt] <;> rfl) | (simp [*,Zu,Zt] <;> rfl),by repeat (first | (with_reducible first | exact HB.out | apply Zf | apply Za | apply Zd) | exact HB.out)⟩
 · rw [if_neg c2] at H
   have c2b0 : (t255 == 0) = false := beq_eq_false_iff_ne.mpr c2;have c2b1 : (t255 != 0) = true := bne_iff_ne.mpr c2;obtain rfl := Option.some.inj H
   go_enter Try.func10,Try.ntmps10
   go_wp2_with (first | ((with_reducible refine ZJ (N := 7) rfl ?_);(try (refine XA (by rfl) ?_;dsimp only));refine Kd.R_lit k43 _ 43 ?hg (N := 7) ?hd (xs := ([(⟨0,0,2,2⟩ : S43),(⟨1,1,2,2⟩ : S43)] : List (S43))) (inner := [.int .i64 0,.int .i64 0,.int .i64 2,.int .i64 2,.int .i64 1,.int .i64 1,.int .i64 2,.int .i64 2]) (ok := fun _ => True) (okp := fun _ => True) ?hr ?hp (fun _ hk => hk) trivial (Below.refl _ _) (Nat.le_refl _) (by simp) ?_;(case hd => rfl);(case hg => rfl);(case hr => first | (go_simp;done) | (go_simp;rfl));(case hp => exact (Reps.c4 (show Kd.M k43 _ _ _ (⟨0,0,2,2⟩ : S43) [.int .i64 0,.int .i64 0,.int .i64 2,.int .i64 2] from (Xs _ _ _ (⟨0,0,2,2⟩ : S43) )) (Reps.c4 (show Kd.M k43 _ _ _ (⟨1,1,2,2⟩ : S43) [.int .i64 1,.int .i64 1,.int .i64 2,.int .i64 2] from (Xs _ _ _ (⟨1,1,2,2⟩ : S43) )) (Reps.none _ _))));intro v252 w56 ho57 hb hg_ hnew_;clear hg_ hnew_;(first | rw [← Ny251.out] at ho57 | (simp only [Int.reduceToNat] at ho57;rw [← Ny251.out] at ho57));have n0_ := Zb.mk (Kd.Xd ho57 (Zp (by repeat (first | (with_reducible first | exact HB.out | apply Zf | apply Za | apply Zd) | exact HB.out))));have n1_ := Zb.mk (Zr (by repeat (first | (with_reducible first | exact HB.out | apply Zf | apply Za | apply Zd) | exact HB.out)) hb);clear HB;have HO253 := n0_;have HB := n1_;clear n0_ n1_;clear hb ho57;obtain ⟨Ao58,co58,eo58⟩ := Kd.ZS HO253.out;subst eo58) | ((with_reducible refine Zw (f := 20) rfl ?_);refine ZP (some 8) rfl rfl Try.func20 (by kernel_rfl) rfl #[.slice Ao58 y251.length co58] rfl (by (try simp only [List.map_toArray,List.map_cons,List.map_nil]);first | done | rfl | (simp only [List.length_drop,List.length_take];rfl)) ?_;(with_reducible refine (Xc.calls _ _ y251 t254 t255 _ ?side1 ?side2 A1.out).mono ?_);(case side1 => repeat (first | exact (Kd.Z3 HO253.out).2.2 | (with_reducible refine Kd.Z9 ?_ _) | (with_reducible refine Kd.ZA ?_ _) | (with_reducible refine Kd.ZO ?_)));(case side2 => exact (Kd.Z3 HO253.out).2.1);rintro e w59 ⟨v256,rfl,ho0,hb⟩;refine ⟨_,rfl,?_⟩;have n0_ := Zb.mk (Kd.Xa (by (with_reducible repeat (first | apply Kd.Zj | apply Kd.Zi | apply Kd.Zm));exact HO253.out) hb);have n1_ := Zb.mk (Kd.Xd ho0 (Zp (by repeat (first | (with_reducible first | exact HB.out | apply Zf | apply Za | apply Zd) | exact HB.out))));have n2_ := Zb.mk (Zr (by repeat (first | (with_reducible first | exact HB.out | apply Zf | apply Za | apply Zd) | exact HB.out)) hb);clear HO253;clear HB;have HO253 := n0_;have HO257 := n1_;have HB := n2_;clear n0_ n1_ n2_;(try clear hb);(try clear hb2);(try clear hk);(try clear hi);(try clear ho0)))
   go_ret;exact ⟨by first | rfl | (simp [Zu,Zt] <;> rfl) | (simp [*,Zu,Zt] <;> rfl),by repeat (first | (with_reducible first | exact HB.out | apply Zf | apply Za | apply Zd) | exact HB.out)⟩
end Go.Proofs.Ythbajahklnpkcaa.PA



namespace Go.Proofs.Ythbajahklnpkcaa.PA
open Go.RowKit Go.Shelf
theorem Vx : sortI [0,2,1,3] = [0,1,2,3] := by
 simp [sortI,List.mergeSort,List.MergeSort.Internal.splitInTwo]
theorem ex_x : edgX ([(⟨0,0,2,2⟩ : S43),(⟨1,1,2,2⟩ : S43)] ++ []) = [0,1,2,3] := by
 unfold edgX edgesL;rw [show endsOf (fun r => r.f0) (fun r => wrap64 (r.f0 + r.f2)) ([(⟨0,0,2,2⟩ : S43),(⟨1,1,2,2⟩ : S43)] ++ []) = [0,2,1,3] from by kernel_rfl,Vx]
 kernel_rfl
theorem ex_y : edgY ([(⟨0,0,2,2⟩ : S43),(⟨1,1,2,2⟩ : S43)] ++ []) = [0,1,2,3] := by
 unfold edgY edgesL;rw [show endsOf (fun r => r.f1) (fun r => wrap64 (r.f1 + r.f3)) ([(⟨0,0,2,2⟩ : S43),(⟨1,1,2,2⟩ : S43)] ++ []) = [0,2,1,3] from by kernel_rfl,Vx]
 kernel_rfl
theorem ex_out : outOf orB [(⟨0,0,2,2⟩ : S43),(⟨1,1,2,2⟩ : S43)] [] = [⟨0,0,2,1⟩,⟨0,1,3,1⟩,⟨1,2,2,1⟩] := by
 unfold outOf;rw [ex_x,ex_y]
 kernel_rfl
theorem ex_region : Xc.f [(⟨0,0,2,2⟩ : S43),(⟨1,1,2,2⟩ : S43)] = some ([⟨0,0,2,1⟩,⟨0,1,3,1⟩,⟨1,2,2,1⟩],0) := by
 unfold Xc.f regionL regionE;rw [ex_out]
 kernel_rfl
theorem ex_convert : Xo.f 1 0 2 2 (⟨#[97,98,99,100]⟩ : ByteArray) 1 = some (1,1,2,2,⟨#[97,98,0,0,99,100,0,0,0,0,0,0,0,0,0,0]⟩,0) := by kernel_rfl
theorem ex_list1 : (ByteArray.extract ⟨#[97,98,0,0,99,100,0,0,0,0,0,0,0,0,0,0]⟩ 0 2).toList = [97,98] := by
 rw [show ByteArray.extract ⟨#[97,98,0,0,99,100,0,0,0,0,0,0,0,0,0,0]⟩ 0 2 = ⟨#[97,98]⟩ from by kernel_rfl];simp [ByteArray.toList,ByteArray.toList.loop,ByteArray.size,ByteArray.get!]
theorem ex_list2 : (ByteArray.extract ⟨#[97,98,0,0,99,100,0,0,0,0,0,0,0,0,0,0]⟩ 4 6).toList = [99,100] := by
 rw [show ByteArray.extract ⟨#[97,98,0,0,99,100,0,0,0,0,0,0,0,0,0,0]⟩ 4 6 = ⟨#[99,100]⟩ from by kernel_rfl];simp [ByteArray.toList,ByteArray.toList.loop,ByteArray.size,ByteArray.get!]
theorem awake_f : X6.f = some true := by
 unfold X6.f;rw [ex_region,ex_convert];simp only [Option.bind];rw [ex_list1,ex_list2]
 kernel_rfl
theorem awake_ok (w : World) : Calls Try.prog 10 #[] w fun e w' => e = .returned (.bool true) ∧ Below w.heap.size w w' := X6.calls true w awake_f
end Go.Proofs.Ythbajahklnpkcaa.PA

namespace Go.Proofs.Ythbajahklnpkcaa.PA
open Go.RowKit Go.Proofs.YthbajahklnpkcaaW.PrintWords Go.Proofs.YthbajahklnpkcaaW.PrintLast Go.Proofs.YthbajahklnpkcaaW.PrintMore
attribute [local go_sem] ZK ZL ZR ZU ZD ZC ZM ZN
set_option linter.unusedVariables false
set_option linter.unusedSimpArgs false
def ZX.f (l0 : List (S43)) : Option (Bool) := if (l0.length : Int) > 250 then (some true) else (if (l0.length : Int) > 60 then (some (decide ((l0.length : Int) ≤ 200))) else (some false))
set_option maxHeartbeats 8000000 in
set_option maxRecDepth 100000 in
theorem ZX.calls (A0 : Option Addr) (c0 : Nat) (l0 : List (S43)) (r : Bool) (w : World) (hr0 : Kd.C k43 w A0 l0.length l0) (hc0 : l0.length ≤ c0) (h : ZX.f l0 = some r) :
 Calls Try.prog 44 #[.slice A0 l0.length c0] w fun e w' => e = .returned (.bool r) ∧ Drawn0 w w' := by
 have HR0 := Zb.mk hr0;have HC0 := Zb.mk hc0;clear hr0 hc0;have H : (if (l0.length : Int) > 250 then (some true) else (if (l0.length : Int) > 60 then (some (decide ((l0.length : Int) ≤ 200))) else (some false))) = some r := h;clear h
 by_cases c2 : (l0.length : Int) > 250
 · rw [if_pos c2] at H
   have c2b0 : decide (250 < (l0.length : Int)) = true := decide_eq_true c2;have c2b1 : decide (250 < l0.length) = true := decide_eq_true (by omega);clear c2;obtain rfl := Option.some.inj H
   go_enter Try.func44,Try.ntmps44
   go_wp2
   go_ret;exact ⟨by first | rfl | (simp;done) | (simp [*];done),by repeat (first | exact Drawn0.refl _ | apply Drawn0.step)⟩
 · rw [if_neg c2] at H
   have c2b0 : decide (250 < (l0.length : Int)) = false := decide_eq_false c2;have c2b1 : decide (250 < l0.length) = false := decide_eq_false (by omega);clear c2
   by_cases c3 : (l0.length : Int) > 60
   · rw [if_pos c3] at H
     have c3b0 : decide (60 < (l0.length : Int)) = true := decide_eq_true c3;have c3b1 : decide (60 < l0.length) = true := decide_eq_true (by omega);clear c3;obtain rfl := Option.some.inj H
     go_enter Try.func44,Try.ntmps44
     go_wp2
     go_ret;exact ⟨by first | rfl | (simp;done) | (simp [*];done),by repeat (first | exact Drawn0.refl _ | apply Drawn0.step)⟩
   · rw [if_neg c3] at H
     have c3b0 : decide (60 < (l0.length : Int)) = false := decide_eq_false c3;have c3b1 : decide (60 < l0.length) = false := decide_eq_false (by omega);clear c3;obtain rfl := Option.some.inj H
     go_enter Try.func44,Try.ntmps44
     go_wp2
     go_ret;exact ⟨by first | rfl | (simp;done) | (simp [*];done),by repeat (first | exact Drawn0.refl _ | apply Drawn0.step)⟩
end Go.Proofs.Ythbajahklnpkcaa.PA

namespace Go.Proofs.Ythbajahklnpkcaa.PA
open Go.RowKit Go.Proofs.YthbajahklnpkcaaW.PrintWords Go.Proofs.YthbajahklnpkcaaW.PrintLast Go.Proofs.YthbajahklnpkcaaW.PrintMore
attribute [local go_sem] ZK ZL ZR ZU ZD ZC ZM ZN
set_option linter.unusedVariables false
set_option linter.unusedSimpArgs false
def X8.f (l0 : List (S43)) (l1 : List (S43)) : Option (Bool) := (ZX.f l0).bind fun t266 => (if t266 = true then (some true) else ((ZX.f l1).bind fun t267 => (some t267)))
set_option maxHeartbeats 8000000 in
set_option maxRecDepth 100000 in
theorem X8.calls (A0 : Option Addr) (c0 : Nat) (l0 : List (S43)) (A1 : Option Addr) (c1 : Nat) (l1 : List (S43)) (r : Bool) (w : World) (hr0 : Kd.C k43 w A0 l0.length l0) (hc0 : l0.length ≤ c0) (hr1 : Kd.C k43 w A1 l1.length l1) (hc1 : l1.length ≤ c1) (h : X8.f l0 l1 = some r) :
 Calls Try.prog 11 #[.slice A0 l0.length c0,.slice A1 l1.length c1] w fun e w' => e = .returned (.bool r) ∧ Drawn0 w w' := by
 have HR0 := Zb.mk hr0;have HC0 := Zb.mk hc0;clear hr0 hc0;have HR1 := Zb.mk hr1;have HC1 := Zb.mk hc1;clear hr1 hc1;have H : ((ZX.f l0).bind fun t266 => (if t266 = true then (some true) else ((ZX.f l1).bind fun t267 => (some t267)))) = some r := h;clear h;replace H := Option.bind_eq_some_iff.mp H;obtain ⟨t266,A30,H⟩ := H;replace H : (if t266 = true then (some true) else ((ZX.f l1).bind fun t267 => (some t267))) = some r := H;have A3 := Zb.mk A30;clear A30
 by_cases c4 : t266 = true
 · subst c4
   have H1 : (some true) = some r := by rw [if_pos rfl] at H;exact H
   clear H;have H := H1;clear H1;obtain rfl := Option.some.inj H
   go_enter Try.func11,Try.ntmps11
   go_wp2_with (first | ((with_reducible refine Zw (f := 44) rfl ?_);refine ZP (some 6) rfl rfl Try.func44 (by kernel_rfl) rfl #[.slice A0 l0.length c0] rfl (by (try simp only [List.map_toArray,List.map_cons,List.map_nil]);first | done | rfl | (simp only [List.length_drop,List.length_take];rfl)) ?_;(with_reducible refine (ZX.calls _ _ l0 true _ ?side1 ?side2 A3.out).mono ?_);(case side1 => repeat (first | exact HR0.out | (with_reducible refine Kd.Z9 ?_ _) | (with_reducible refine Kd.ZA ?_ _) | (with_reducible refine Kd.ZO ?_)));(case side2 => exact HC0.out);rintro e w' ⟨rfl,⟨nd,rfl⟩⟩;refine ⟨_,rfl,?_⟩))
   go_ret;exact ⟨by first | rfl | (simp;done) | (simp [*];done),by repeat (first | exact Drawn0.refl _ | apply Drawn0.step)⟩
 · replace c4 := Bool.eq_false_iff.mpr c4
   subst c4
   have H1 : ((ZX.f l1).bind fun t267 => (some t267)) = some r := by rw [if_neg (show ¬ (false = true) by decide)] at H;exact H
   clear H;have H := H1;clear H1;replace H := Option.bind_eq_some_iff.mp H;obtain ⟨t267,A50,H⟩ := H;replace H : (some t267) = some r := H;have A5 := Zb.mk A50;clear A50;obtain rfl := Option.some.inj H
   go_enter Try.func11,Try.ntmps11
   go_wp2_with (first | ((with_reducible refine Zw (f := 44) rfl ?_);refine ZP (some 6) rfl rfl Try.func44 (by kernel_rfl) rfl #[.slice A0 l0.length c0] rfl (by (try simp only [List.map_toArray,List.map_cons,List.map_nil]);first | done | rfl | (simp only [List.length_drop,List.length_take];rfl)) ?_;(with_reducible refine (ZX.calls _ _ l0 false _ ?side1 ?side2 A3.out).mono ?_);(case side1 => repeat (first | exact HR0.out | (with_reducible refine Kd.Z9 ?_ _) | (with_reducible refine Kd.ZA ?_ _) | (with_reducible refine Kd.ZO ?_)));(case side2 => exact HC0.out);rintro e w' ⟨rfl,⟨nd,rfl⟩⟩;refine ⟨_,rfl,?_⟩) | (go_at_call 44;(with_reducible refine (ZX.calls _ _ l1 t267 _ ?side1 ?side2 A5.out).mono ?_);(case side1 => repeat (first | exact HR1.out | (with_reducible refine Kd.Z9 ?_ _) | (with_reducible refine Kd.ZA ?_ _) | (with_reducible refine Kd.ZO ?_)));(case side2 => exact HC1.out);rintro e w' ⟨rfl,⟨nd,rfl⟩⟩))
   go_ret;exact ⟨by first | rfl | (simp;done) | (simp [*];done),by repeat (first | exact Drawn0.refl _ | apply Drawn0.step)⟩
end Go.Proofs.Ythbajahklnpkcaa.PA

namespace Go.Proofs.Ythbajahklnpkcaa.PA
open Go.RowKit Go.Proofs.YthbajahklnpkcaaW.PrintWords Go.Proofs.YthbajahklnpkcaaW.PrintLast Go.Proofs.YthbajahklnpkcaaW.PrintMore
attribute [local go_sem] ZK ZL ZR ZU ZD ZC ZM ZN
set_option linter.unusedVariables false
set_option linter.unusedSimpArgs false
end Go.Proofs.Ythbajahklnpkcaa.PA

namespace Go.Proofs.Ythbajahklnpkcaa.PA
open Go.RowKit Go.Proofs.YthbajahklnpkcaaW.PrintWords Go.Proofs.YthbajahklnpkcaaW.PrintLast Go.Proofs.YthbajahklnpkcaaW.PrintMore
attribute [local go_sem] ZK ZL ZR ZU ZD ZC ZM ZN
set_option linter.unusedVariables false
set_option linter.unusedSimpArgs false
def Xg.l0 : Nat → Int → List (S43) → Int → Int → Option (Int × Int)
 | 0,_,_,_,_ => none
 | k + 1,x4,x10,x11,x12 => if x12 < x11 then (if 0 ≤ x12 then (if x12 < (x10.length : Int) then (Xg.l0 k (wrap64 (x4 + (wrap64 (((Ze x10 x12).f2) * ((Ze x10 x12).f3))))) x10 x11 (wrap64 (x12 + 1))) else (none)) else (none)) else (some (x4,0))
def Xg.f (k : Nat) (l0 : List (S43)) : Option (Int × Int) := (Z7.f l0).bind fun t383 => (if t383 = true then (Xg.l0 k 0 l0 (l0.length : Int) 0) else (some (0,1)))
set_option maxHeartbeats 8000000 in
set_option maxRecDepth 100000 in
theorem Xg.calls (k : Nat) (A0 : Option Addr) (c0 : Nat) (l0 : List (S43)) (r1 : Int) (r2 : Int) (w : World) (hr0 : Kd.C k43 w A0 l0.length l0) (hc0 : l0.length ≤ c0) (h : Xg.f k l0 = some (r1,r2)) :
 Calls Try.prog 17 #[.slice A0 l0.length c0] w fun e w' => e = .returned (.tuple #[.int .i64 r1,.int .i64 r2]) ∧ Below w.heap.size w w' := by
 have hu43 := Try.underlying43;have HR0 := Zb.mk hr0;have HC0 := Zb.mk hc0;clear hr0 hc0;have HB := Zb.mk (Below.refl w.heap.size w);have H : ((Z7.f l0).bind fun t383 => (if t383 = true then (Xg.l0 k 0 l0 (l0.length : Int) 0) else (some (0,1)))) = some (r1,r2) := h;clear h;replace H := Option.bind_eq_some_iff.mp H;obtain ⟨t383,A20,H⟩ := H;replace H : (if t383 = true then (Xg.l0 k 0 l0 (l0.length : Int) 0) else (some (0,1))) = some (r1,r2) := H;have A2 := Zb.mk A20;clear A20
 by_cases c3 : t383 = true
 · subst c3
   have H1 : (Xg.l0 k 0 l0 (l0.length : Int) 0) = some (r1,r2) := by rw [if_pos rfl] at H;exact H
   clear H;have H := H1;clear H1;have H' := Zb.mk H;clear H
   go_enter Try.func17,Try.ntmps17
   go_wp2_with (first | ((with_reducible refine Zw (f := 22) rfl ?_);refine ZP (some 8) rfl rfl Try.func22 (by kernel_rfl) rfl #[.slice A0 l0.length c0] rfl (by (try simp only [List.map_toArray,List.map_cons,List.map_nil]);first | done | rfl | (simp only [List.length_drop,List.length_take];rfl)) ?_;(with_reducible refine (Z7.calls _ _ l0 true _ ?side1 ?side2 A2.out).mono ?_);(case side1 => repeat (first | exact HR0.out | (with_reducible refine Kd.Z9 ?_ _) | (with_reducible refine Kd.ZA ?_ _) | (with_reducible refine Kd.ZO ?_)));(case side2 => exact HC0.out);rintro e w4 ⟨rfl,hb⟩;refine ⟨_,rfl,?_⟩;have n0_ := Zb.mk (Zr (by repeat (first | (with_reducible first | exact HB.out | apply Zf | apply Za | apply Zd) | exact HB.out)) hb);clear HB;have HB := n0_;clear n0_;(try clear hb);(try clear hb2);(try clear hk);(try clear hi)))
   go_loopg [4,12] k (fun kq v4 v12 w' => ∃ (x4_1 : Int) (x12_1 : Int),v4 = .int .i64 x4_1 ∧ v12 = .int .i64 x12_1 ∧ Zb (Xg.l0 kq x4_1 l0 (l0.length : Int) x12_1 = some (r1,r2)) ∧ Zb (kq ≤ k) ∧ Zb (Below w.heap.size w w'))
   case atStart => exact ⟨(0),(0),(by first | rfl | (simp;done) | (simp [*];done)),(by first | rfl | (simp;done) | (simp [*];done)),H',⟨Nat.le_refl _⟩,⟨by repeat (first | (with_reducible first | exact HB.out | apply Zf | apply Za | apply Zd) | exact HB.out)⟩⟩
   case round =>
    clear H'
    (try clear c1); (try clear c2); (try clear p2); (try clear c3)
    obtain ⟨x4_1,x12_1,rfl,rfl,HA,HK1,HB⟩ := hrel
    cases gk with
    | zero => exact absurd HA.out (by simp [Xg.l0])
    | succ k1 =>
     have H := HA.out;clear HA;simp only [Xg.l0] at H
     by_cases c5 : x12_1 < (l0.length : Int)
     · rw [if_pos c5] at H
       have c5b0 : decide (x12_1 < (l0.length : Int)) = true := decide_eq_true c5;clear c5
       by_cases c6 : 0 ≤ x12_1
       · rw [if_pos c6] at H
         have c6b0 : decide (0 ≤ x12_1) = true := decide_eq_true c6;clear c6
         by_cases c7 : x12_1 < (l0.length : Int)
         · rw [if_pos c7] at H
           have c7b0 : decide (x12_1 < (l0.length : Int)) = true := decide_eq_true c7;clear c7;have H' := Zb.mk H;clear H;have p384 : 0 ≤ (x12_1 : Int) := of_decide_eq_true (by first | (with_reducible assumption) | assumption);have q384 : x12_1 < (l0.length : Int) := of_decide_eq_true (by first | (with_reducible assumption) | assumption);obtain ⟨ad384,e384,hx384_0,hx384_1,hx384_2,hx384_3⟩ := Z4 HR0.out x12_1 p384 q384
           cases e384
           replace hx384_0 := (HB.out.cell (World.block_lt_of_cell? w _ hx384_0)).trans hx384_0;replace hx384_1 := (HB.out.cell (World.block_lt_of_cell? w _ hx384_1)).trans hx384_1;replace hx384_2 := (HB.out.cell (World.block_lt_of_cell? w _ hx384_2)).trans hx384_2;replace hx384_3 := (HB.out.cell (World.block_lt_of_cell? w _ hx384_3)).trans hx384_3;replace p384 := eq_true p384;replace q384 := eq_true q384
           go_wp2_with (first | ((with_reducible refine ZJ (N := 6) rfl ?_);refine ZI ?hg (N := 6) ?hd (cs := #[.int .i64 0,.int .i64 0,.int .i64 0,.int .i64 0]) (t := 43) ?hr ?_;(case hd => rfl);(case hg => rfl);(case hr => first | (go_simp;done) | (go_simp;rfl));intro gb385 hg w8 hbox hb;have n0_ := Zb.mk (Zr (by repeat (first | (with_reducible first | exact HB.out | apply Zf | apply Za | apply Zd) | exact HB.out)) hb);have n1_ := Zb.mk (hbox);have n2_ := Zb.mk ((by rw [hg];exact (Zp (by repeat (first | (with_reducible first | exact HB.out | apply Zf | apply Za | apply Zd) | exact HB.out))) : w.heap.size ≤ gb385));have n3_ := Zb.mk ((by rw [hg];exact (Zp (by repeat (first | (with_reducible first | exact HB.out | apply Zf | apply Za | apply Zd) | exact HB.out))) : w.heap.size ≤ gb385));clear HB;have HB := n0_;have BK385 := n1_;have GW385 := n2_;have GE385 := n3_;clear n0_ n1_ n2_ n3_;clear hb hbox hg;have hcz9_0 : w8.cell? ⟨gb385,0,none⟩ = some (.int .i64 0) := (Zg BK385.out 0).trans rfl;have hcz9_1 : w8.cell? ⟨gb385,1,none⟩ = some (.int .i64 0) := (Zg BK385.out 1).trans rfl;have hcz9_2 : w8.cell? ⟨gb385,2,none⟩ = some (.int .i64 0) := (Zg BK385.out 2).trans rfl;have hcz9_3 : w8.cell? ⟨gb385,3,none⟩ = some (.int .i64 0) := (Zg BK385.out 3).trans rfl;have hfz9_0 := Zh BK385.out 0;have hfz9_1 := Zh BK385.out 1;have hfz9_2 := Zh BK385.out 2;have hfz9_3 := Zh BK385.out 3))
           go_roundg k1
           case measure => have := HK1.out;omega
           case rel => exact ⟨(wrap64 (x4_1 + (wrap64 (((Ze l0 x12_1).f2) * ((Ze l0 x12_1).f3))))),(wrap64 (x12_1 + 1)),(by first | rfl | (simp;done) | (simp [*];done)),(by first | rfl | (simp;done) | (simp [*];done)),H',⟨by have := HK1.out;omega⟩,⟨by repeat (first | (with_reducible first | exact HB.out | apply Zf | apply Za | apply Zd | refine Zo ?_ GE385.out) | exact HB.out)⟩⟩
         · rw [if_neg c7] at H
           exact absurd H (by simp)
       · rw [if_neg c6] at H
         exact absurd H (by simp)
     · rw [if_neg c5] at H
       have c5b0 : decide (x12_1 < (l0.length : Int)) = false := decide_eq_false c5;clear c5;simp only [Option.some.injEq,Prod.mk.injEq] at H;obtain ⟨rfl,rfl⟩ := H
       go_wp2
       go_ret2
       exact ⟨by first | rfl | (simp [Zu,Zt] <;> rfl) | (simp [*,Zu,Zt] <;> rfl),by repeat (first | (with_reducible first | exact HB.out | apply Zf | apply Za | apply Zd) | exact HB.out)⟩
 · replace c3 := Bool.eq_false_iff.mpr c3
   subst c3
   have H1 : (some (0,1)) = some (r1,r2) := by rw [if_neg (show ¬ (false = true) by decide)] at H;exact H
   clear H;have H := H1;clear H1;simp only [Option.some.injEq,Prod.mk.injEq] at H;obtain ⟨rfl,rfl⟩ := H
   go_enter Try.func17,Try.ntmps17
   go_wp2_with (first | ((with_reducible refine Zw (f := 22) rfl ?_);refine ZP (some 8) rfl rfl Try.func22 (by kernel_rfl) rfl #[.slice A0 l0.length c0] rfl (by (try simp only [List.map_toArray,List.map_cons,List.map_nil]);first | done | rfl | (simp only [List.length_drop,List.length_take];rfl)) ?_;(with_reducible refine (Z7.calls _ _ l0 false _ ?side1 ?side2 A2.out).mono ?_);(case side1 => repeat (first | exact HR0.out | (with_reducible refine Kd.Z9 ?_ _) | (with_reducible refine Kd.ZA ?_ _) | (with_reducible refine Kd.ZO ?_)));(case side2 => exact HC0.out);rintro e w10 ⟨rfl,hb⟩;refine ⟨_,rfl,?_⟩;have n0_ := Zb.mk (Zr (by repeat (first | (with_reducible first | exact HB.out | apply Zf | apply Za | apply Zd) | exact HB.out)) hb);clear HB;have HB := n0_;clear n0_;(try clear hb);(try clear hb2);(try clear hk);(try clear hi)))
   go_ret2
   exact ⟨by first | rfl | (simp [Zu,Zt] <;> rfl) | (simp [*,Zu,Zt] <;> rfl),by repeat (first | (with_reducible first | exact HB.out | apply Zf | apply Za | apply Zd) | exact HB.out)⟩
end Go.Proofs.Ythbajahklnpkcaa.PA
