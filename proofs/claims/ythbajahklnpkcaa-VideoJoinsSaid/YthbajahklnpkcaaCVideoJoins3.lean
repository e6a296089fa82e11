/- VideoJoins, part 3: what the row is built on. -/
import Derived.Test.YthbajahklnpkcaaCVideoJoins2
import Derived.Laws.CopyOwn
import Derived.Deep.RegionLaw
import Derived.BigQuiet
namespace Go.Proofs.Ythbajahklnpkcaa.PA
open Go.RowKit Go.Proofs.YthbajahklnpkcaaW.PrintWords Go.Proofs.YthbajahklnpkcaaW.PrintLast Go.Proofs.YthbajahklnpkcaaW.PrintMore
set_option linter.unusedVariables false
set_option linter.unusedSimpArgs false
theorem Jm {α : Type} (p : α → Bool) (l : List α) (k : Nat) (x : α) (hx : l[k]? = some x) : (l.drop k).any p = (p x || (l.drop (k + 1)).any p) := by
 obtain ⟨hlt,rfl⟩ := List.getElem?_eq_some_iff.1 hx;rw [List.drop_eq_getElem_cons hlt,List.any_cons]
theorem rhas_l0 (l : List S43) (x y : Int) (hl : l.length ≤ 9223372036854775807) : ∀ (n kk : Nat),l.length - kk = n → kk ≤ l.length → Ev (fun k => Zq.l0 k l x y kk) ((l.drop kk).any (inR x y)) := by
 intro n
 induction n with
 | zero =>
  intro kk hn hk;rw [List.drop_eq_nil_of_le (by omega)];refine Ev.pure (fun k => ?_);simp only [Zq.l0];rw [if_neg (by omega)];rfl
 | succ n ih =>
  intro kk hn hk
  have hlt : kk < l.length := by omega
  have hx := Xu l kk hlt;have hw : wrap64 ((kk : Int) + 1) = ((kk + 1 : Nat) : Int) := Xz (by omega)
  have i0 : (0 : Int) ≤ (kk : Int) := by omega
  have i1 : (kk : Int) < (l.length : Int) := by omega
  rw [Jm _ _ _ _ hx];have h := ih (kk + 1) (by omega) (by omega);generalize hr : Zg l (kk : Int) = r at hx
  have miss : inR x y r = false → (∀ k,Zq.l0 (k + 1) l x y kk = Zq.l0 k l x y ((kk + 1 : Nat) : Int)) → Ev (fun k => Zq.l0 k l x y kk) (inR x y r || (l.drop (kk + 1)).any (inR x y)) := by
   intro hq e;rw [hq,Bool.false_or];exact Ev.step e h
  by_cases h1 : x ≥ r.f0
  · by_cases h2 : x < wrap64 (r.f0 + r.f2)
    · by_cases h3 : y ≥ r.f1
      · by_cases h4 : y < wrap64 (r.f1 + r.f3)
        · have hq : inR x y r = true := by simp [inR,h1,h2,h3,h4]
          rw [hq,Bool.true_or];refine Ev.pure (fun k => ?_);simp only [Zq.l0,hr];rw [if_pos i1,if_pos i0,if_pos h1,if_pos h2,if_pos h3,if_pos h4]
        · exact miss (by simp [inR];omega) (fun k => by simp only [Zq.l0,hr];rw [if_pos i1,if_pos i0,if_pos h1,if_pos h2,if_pos h3,if_neg h4,hw])
      · exact miss (by simp [inR];omega) (fun k => by simp only [Zq.l0,hr];rw [if_pos i1,if_pos i0,if_pos h1,if_pos h2,if_neg h3,hw])
    · exact miss (by simp [inR];omega) (fun k => by simp only [Zq.l0,hr];rw [if_pos i1,if_pos i0,if_pos h1,if_neg h2,hw])
  · exact miss (by simp [inR];omega) (fun k => by simp only [Zq.l0,hr];rw [if_pos i1,if_pos i0,if_neg h1,hw])
theorem rhas (l : List S43) (x y : Int) (hl : l.length ≤ 9223372036854775807) : Ev (fun k => Zq.f k l x y) (covL l x y) := by
 have h := rhas_l0 l x y hl _ 0 rfl (Nat.zero_le _);rw [List.drop_zero] at h;exact Ev.congr (fun k => rfl) h
def rc (u v : Int) (s : Sp) : S43 := ⟨s.1,u,s.2 - s.1,v - u⟩
theorem Y6 (u v : Int) (t : List Sp) : bandL (u,v,t) = t.map (rc u v) := rfl
def addS (acc : List Sp) (s : Sp) : List Sp := match acc with
 | (a,b) :: r => if b = s.1 then (a,s.2) :: r else s :: (a,b) :: r
 | [] => [s]
def bdS (s : Sp) : Prop := -40000 ≤ s.1 ∧ s.1 ≤ 40000 ∧ -40000 ≤ s.2 ∧ s.2 ≤ 40000
theorem addS_bd {acc : List Sp} {s : Sp} (h : ∀ q ∈ acc,bdS q) (hs : bdS s) : ∀ q ∈ addS acc s,bdS q := by
 intro q hq
 cases acc with
 | nil => simp [addS] at hq;subst hq;exact hs
 | cons e r =>
  obtain ⟨a,b⟩ := e
  by_cases hb : b = s.1
  · simp only [addS,hb,if_true] at hq
    rcases List.mem_cons.mp hq with rfl | hq
    · have := h (a,b) (by simp)
      exact ⟨this.1,this.2.1,hs.2.2.1,hs.2.2.2⟩
    · exact h q (by simp [hq])
  · simp only [addS,hb,if_false] at hq
    rcases List.mem_cons.mp hq with rfl | hq
    · exact hs
    · exact h q hq
theorem JO (acc : List Sp) (s : Sp) : (addS acc s).length ≤ acc.length + 1 := by
 unfold addS;split
 · split <;> simp
 · simp
theorem Qx {l : List S43} {k : Nat} {x : S43} (h : l[k]? = some x) : Zg l (k : Int) = x := by
 have hlt := (List.getElem?_eq_some_iff.1 h).1;have := Xu l k hlt;rw [h] at this;exact (Option.some.inj this).symm
theorem rrow_l0 (u v : Int) (c : List Sp) (hc : ∀ q ∈ c,bdS q) (hcl : c.length ≤ 100000) : ∀ (n kk : Nat) (acc : List Sp),c.length - kk = n → kk ≤ c.length → (∀ q ∈ acc,bdS q) → acc.length ≤ kk →
 Ev (fun k => Zo.l0 k (c.map (rc u v)) (acc.reverse.map (rc u v)) kk) (((c.drop kk).foldl addS acc).reverse.map (rc u v)) := by
 intro n
 induction n with
 | zero =>
  intro kk acc hn hk hb ha;rw [List.drop_eq_nil_of_le (by omega)];refine Ev.pure (fun k => ?_);simp only [Zo.l0,List.length_map];rw [if_neg (by omega)];rfl
 | succ n ih =>
  intro kk acc hn hk hb ha
  have hlt : kk < c.length := by omega
  obtain ⟨s,hs⟩ : ∃ s,c[kk]? = some s := ⟨_,List.getElem?_eq_getElem hlt⟩
  have hsm : s ∈ c := List.mem_of_getElem? hs;have hbs := hc s hsm;have e0 : Zg (c.map (rc u v)) (kk : Int) = rc u v s := Qx (by rw [List.getElem?_map,hs];rfl)
  have hd : c.drop kk = s :: c.drop (kk + 1) := by
   obtain ⟨hlt',rfl⟩ := List.getElem?_eq_some_iff.1 hs;exact List.drop_eq_getElem_cons hlt'
  have hw : wrap64 ((kk : Int) + 1) = ((kk + 1 : Nat) : Int) := Xz (by omega);rw [hd,List.foldl_cons];have h := ih (kk + 1) (addS acc s) (by omega) (by omega) (addS_bd hb hbs) (by have := JO acc s;omega);refine Ev.step (fun k => ?_) h
  have i0 : (0 : Int) ≤ (kk : Int) := by omega
  have i1 : (kk : Int) < (c.length : Int) := by omega
  simp only [Zo.l0,List.length_map,List.length_reverse];rw [if_pos i1,e0]
  cases acc with
  | nil =>
   rw [if_neg (by simp),if_pos i0,if_pos (by simp),hw];rfl
  | cons q r =>
   obtain ⟨a,b⟩ := q;have hq := hb (a,b) (by simp)
   have hlen : wrap64 ((((a,b) :: r).length : Int) - 1) = (r.length : Int) := by
    have : r.length ≤ 100000 := by simp at ha;omega
    have e9 : (((a,b) :: r).length : Int) = (r.length : Int) + 1 := by simp
    rw [e9,w64 (by omega) (by omega)];omega
   have e1 : Zg (((a,b) :: r).reverse.map (rc u v)) (r.length : Int) = rc u v (a,b) := Qx (by
    rw [List.getElem?_map,List.reverse_cons,List.getElem?_append_right (by simp)]
    simp)
   rw [if_pos (by simp),hlen,if_pos (by omega),if_pos (by simp;omega),if_pos i0,e1]
   have w1 : wrap64 ((rc u v (a,b)).f0 + (rc u v (a,b)).f2) = b := by
    simp only [rc];rw [w64 (by have := hq.2.2.1;simp at this ⊢;omega) (by have := hq.2.2.2;simp at this ⊢;omega)];omega
   rw [w1]
   by_cases hbs2 : b = s.1
   · have e2 : (rc u v s).f0 = s.1 := rfl
     rw [if_pos (by rw [e2];exact hbs2),hw]
     have e3 : addS ((a,b) :: r) s = (a,s.2) :: r := by simp [addS,hbs2]
     rw [e3]
     congr 1
     have w2 : wrap64 ((rc u v (a,b)).f2 + (rc u v s).f2) = s.2 - a := by
      simp only [rc];have q1 := hq.1;have q2 := hq.2.1;have q3 := hbs.2.2.1;have q4 := hbs.2.2.2;simp at q1 q2;rw [w64 (by omega) (by omega)];omega
     rw [w2];simp only [Int.toNat_natCast,List.reverse_cons,List.map_append,List.map_cons,List.map_nil];rw [List.set_append_right _ _ (by simp)];simp [rc]
   · have e2 : (rc u v s).f0 = s.1 := rfl
     rw [if_neg (by rw [e2];exact hbs2),if_pos (by simp at ha ⊢;omega),hw]
     have e3 : addS ((a,b) :: r) s = s :: (a,b) :: r := by simp [addS,hbs2]
     rw [e3]
     congr 1
     simp [rc]
theorem rrow (u v : Int) (c : List Sp) (hc : ∀ q ∈ c,bdS q) (hcl : c.length ≤ 100000) : Ev (fun k => Zo.f k (c.map (rc u v))) ((c.foldl addS []).reverse.map (rc u v)) := by
 have h := rrow_l0 u v c hc hcl _ 0 [] rfl (Nat.zero_le _) (by intro q h;cases h) (Nat.le_refl _);rw [List.drop_zero] at h;exact Ev.congr (fun k => rfl) h
end Go.Proofs.Ythbajahklnpkcaa.PA

namespace Go.Proofs.Ythbajahklnpkcaa.PA
open Go.RowKit Go.Proofs.YthbajahklnpkcaaW.PrintWords Go.Proofs.YthbajahklnpkcaaW.PrintLast Go.Proofs.YthbajahklnpkcaaW.PrintMore
attribute [local go_sem] ZN ZO ZZ Xb ZI ZJ ZQ ZP
set_option linter.unusedVariables false
set_option linter.unusedSimpArgs false
def ZL.f (a0 : Int) : Option (Bool) := if a0 = 0 then (some true) else (some (a0 == 1))
set_option maxHeartbeats 8000000 in
set_option maxRecDepth 100000 in
theorem ZL.calls (a0 : Int) (r : Bool) (w : World) (h : ZL.f a0 = some r) :
 Calls Try.prog 95 #[.int .i64 a0] w fun e w' => e = .returned (.bool r) ∧ Drawn0 w w' := by
 have H : (if a0 = 0 then (some true) else (some (a0 == 1))) = some r := h;clear h
 by_cases c2 : a0 = 0
 · rw [if_pos c2] at H
   have c2b0 : (a0 == 0) = true := beq_iff_eq.mpr c2;have c2b1 : (a0 != 0) = false := bne_eq_false_iff_eq.mpr c2;clear c2;obtain rfl := Option.some.inj H
   go_enter Try.func95,Try.ntmps95
   go_wp2
   go_ret;exact ⟨by first | rfl | (simp;done) | (simp [*];done),by repeat (first | exact Drawn0.refl _ | apply Drawn0.step)⟩
 · rw [if_neg c2] at H
   have c2b0 : (a0 == 0) = false := beq_eq_false_iff_ne.mpr c2;have c2b1 : (a0 != 0) = true := bne_iff_ne.mpr c2;obtain rfl := Option.some.inj H
   go_enter Try.func95,Try.ntmps95
   go_wp2
   go_ret;exact ⟨by first | rfl | (simp;done) | (simp [*];done),by repeat (first | exact Drawn0.refl _ | apply Drawn0.step)⟩
end Go.Proofs.Ythbajahklnpkcaa.PA

namespace Go.Proofs.Ythbajahklnpkcaa.PA
open Go.RowKit Go.Proofs.YthbajahklnpkcaaW.PrintWords Go.Proofs.YthbajahklnpkcaaW.PrintLast Go.Proofs.YthbajahklnpkcaaW.PrintMore
attribute [local go_sem] ZN ZO ZZ Xb ZI ZJ ZQ ZP
set_option linter.unusedVariables false
set_option linter.unusedSimpArgs false
def Xt.f (a0 : Int) : Option (Bool) := if a0 ≥ 1 then (some (decide (a0 ≤ 4))) else (some false)
set_option maxHeartbeats 8000000 in
set_option maxRecDepth 100000 in
theorem Xt.calls (a0 : Int) (r : Bool) (w : World) (h : Xt.f a0 = some r) :
 Calls Try.prog 115 #[.int .i64 a0] w fun e w' => e = .returned (.bool r) ∧ Drawn0 w w' := by
 have H : (if a0 ≥ 1 then (some (decide (a0 ≤ 4))) else (some false)) = some r := h;clear h
 by_cases c2 : a0 ≥ 1
 · rw [if_pos c2] at H
   have c2b0 : decide (1 ≤ a0) = true := decide_eq_true c2;clear c2;obtain rfl := Option.some.inj H
   go_enter Try.func115,Try.ntmps115
   go_wp2
   go_ret;exact ⟨by first | rfl | (simp;done) | (simp [*];done),by repeat (first | exact Drawn0.refl _ | apply Drawn0.step)⟩
 · rw [if_neg c2] at H
   have c2b0 : decide (1 ≤ a0) = false := decide_eq_false c2;clear c2;obtain rfl := Option.some.inj H
   go_enter Try.func115,Try.ntmps115
   go_wp2
   go_ret;exact ⟨by first | rfl | (simp;done) | (simp [*];done),by repeat (first | exact Drawn0.refl _ | apply Drawn0.step)⟩
end Go.Proofs.Ythbajahklnpkcaa.PA

namespace Go.Proofs.Ythbajahklnpkcaa.PA
open Go.RowKit Go.Shelf Go.Proofs.YthbajahklnpkcaaW.PrintWords Go.Proofs.YthbajahklnpkcaaW.PrintLast Go.Proofs.YthbajahklnpkcaaW.PrintMore
set_option linter.unusedVariables false
set_option linter.unusedSimpArgs false
theorem rd_getElem (l : List Int) (k : Nat) (h : k < l.length) : l[k]? = some (rd l k) := by
 rw [List.getElem?_eq_getElem h];simp [rd,h]
end Go.Proofs.Ythbajahklnpkcaa.PA

namespace Go.Proofs.Ythbajahklnpkcaa.PA
open Go.RowKit Go.Shelf Go.Proofs.YthbajahklnpkcaaW.PrintWords Go.Proofs.YthbajahklnpkcaaW.PrintLast Go.Proofs.YthbajahklnpkcaaW.PrintMore
set_option linter.unusedVariables false
set_option linter.unusedSimpArgs false
theorem Jk (z : Int) : ∀ l : List Int,placeC l z ≤ l.length
 | [] => Nat.le_refl _
 | a :: r => by
  unfold placeC;have := Jk z r
  split <;> simp <;> omega
theorem Jq (z : Int) : ∀ (l : List Int) (k : Nat) (x : Int),k < placeC l z → l[k]? = some x → x < z
 | [],k,x,h,_ => by simp [placeC] at h
 | a :: r,k,x,h,hx => by
  unfold placeC at h;split at h
  · rename_i haz
    cases k with
    | zero => simp at hx;omega
    | succ k => exact Jq z r k x (by omega) (by simpa using hx)
  · omega
theorem Jc (z : Int) : ∀ (l : List Int) (x : Int),l[placeC l z]? = some x → ¬ x < z
 | [],x,h => by simp [placeC] at h
 | a :: r,x,h => by
  unfold placeC at h;split at h
  · exact Jc z r x (by simpa using h)
  · rename_i haz
    simp at h;omega
theorem ins_cells (o : List Int) (k : Nat) (z : Int) (hk : k ≤ o.length) (rest : List Value) :
 ((splice (ints o ++ [Value.int .i64 0] ++ rest) (k + 1) (ints (o.drop k))).set k (.int .i64 z)).take (o.length + 1) = ints (o.take k ++ z :: o.drop k) := by
 have hl : (ints o).length = o.length := by simp
 have h1 : splice (ints o ++ [Value.int .i64 0] ++ rest) (k + 1) (ints (o.drop k)) = (ints o ++ [Value.int .i64 0]).take (k + 1) ++ (ints (o.drop k) ++ rest) := by
  unfold splice
  have e1 : (ints o ++ [Value.int .i64 0] ++ rest).take (k + 1) = (ints o ++ [Value.int .i64 0]).take (k + 1) := by
   rw [List.take_append_of_le_length (by simp;omega)]
  have e2 : k + 1 + (ints (o.drop k)).length = (ints o ++ [Value.int .i64 0]).length := by simp;omega
  rw [e1,e2,List.drop_left]
 have h2 : (ints o ++ [Value.int .i64 0]).take (k + 1) = ints (o.take k) ++ [((ints o ++ [Value.int .i64 0]).getD k (.int .i64 0))] := by
  rw [List.take_add_one]
  have e3 : (ints o ++ [Value.int .i64 0])[k]? = some ((ints o ++ [Value.int .i64 0]).getD k (.int .i64 0)) := by
   rw [List.getD_eq_getElem?_getD]
   have : k < (ints o ++ [Value.int .i64 0]).length := by simp;omega
   rw [List.getElem?_eq_getElem this];rfl
  rw [e3,List.take_append_of_le_length (by rw [hl];exact hk)]
  congr 1
  simp [ints,List.map_take]
 have hk2 : (ints (o.take k)).length = k := by simp;omega
 rw [h1,h2]
 have h3 : ((ints (o.take k) ++ [(ints o ++ [Value.int .i64 0]).getD k (.int .i64 0)] ++ (ints (o.drop k) ++ rest)).set k (.int .i64 z)) = ints (o.take k) ++ (.int .i64 z :: (ints (o.drop k) ++ rest)) := by
  rw [List.append_assoc,List.set_append_right _ _ (by omega),hk2,Nat.sub_self];rfl
 rw [h3]
 have h4 : ints (o.take k ++ z :: o.drop k) = ints (o.take k) ++ (.int .i64 z :: ints (o.drop k)) := by simp [ints]
 have h5 : (ints (o.take k) ++ (.int .i64 z :: ints (o.drop k))).length = o.length + 1 := by simp;omega
 rw [h4,← List.cons_append,← List.append_assoc,← h5,List.take_left]
theorem JN (z : Int) : ∀ l : List Int,(insC l z).length ≤ l.length + 1
 | [] => by simp [insC]
 | a :: r => by
  unfold insC;have := JN z r;split
  · simp;omega
  · split <;> simp
theorem cutsL_snoc (l : List Int) (z : Int) : cutsL (l ++ [z]) = insC (cutsL l) z := by simp [cutsL,List.foldl_append]
theorem cutsL_take (l : List Int) (k : Nat) (z : Int) (h : l[k]? = some z) : cutsL (l.take (k + 1)) = insC (cutsL (l.take k)) z := by
 rw [List.take_add_one,h];exact cutsL_snoc _ _
theorem QX (l : List Int) : (cutsL l).length ≤ l.length := by
 have key : ∀ (l acc : List Int),(l.foldl insC acc).length ≤ acc.length + l.length := by
  intro l
  induction l with
  | nil => intro acc;simp
  | cons z l ih =>
   intro acc;have h1 := ih (insC acc z);have h2 := JN z acc;simp only [List.foldl_cons,List.length_cons];omega
 have := key l []
 simpa [cutsL] using this
theorem JH {W : World} {base c n : Nat} {B : Option Addr} {o : List Int} (h : W.ownsRow base 3 1 (.slice B n c) n (ints o)) (k : Nat) (hk : k < o.length) : ∃ g,B = some ⟨g,0,none⟩ ∧ base ≤ g ∧ W.cell? ⟨g,k,none⟩ = some (.int .i64 (o.getD k 0)) := by
 have hn : o.length = n := by have := h.1;simpa using this
 rcases h.2 with ⟨_,h0⟩ | ⟨g,cap,cur,hv,hb,hg,_,_,_,ht⟩
 · omega
 · injection hv with h1 _ _
   refine ⟨g,h1,hb,?_⟩
   have h2 : (cur.toList.take (n * 1))[k]? = some (.int .i64 (o.getD k 0)) := by rw [ht];exact Qi hk
   rw [List.getElem?_take,if_pos (by omega)] at h2
   have h3 : cur[k]? = some (.int .i64 (o.getD k 0)) := by rw [← Array.getElem?_toList];exact h2
   exact Blk.cell (W := W) (b := g) (cs := cur) (t := 3) hg k h3
theorem Jb {W : World} {base c n : Nat} {B : Option Addr} {o : List Int} (h : W.ownsRow base 3 1 (.slice B (n + 1) c) (n + 1) (ints o ++ [.int .i64 0])) :
 ∃ g rest,B = some ⟨g,0,none⟩ ∧ base ≤ g ∧ n = o.length ∧ n + 1 ≤ c ∧ c ≤ maxLen ∧ W.heap[g]? = some (.cells (ints o ++ [Value.int .i64 0] ++ rest).toArray 3 (0,0)) ∧ (ints o ++ [Value.int .i64 0] ++ rest).length = c := by
 have hn : n = o.length := by have := h.1;simp at this;omega
 rcases h.2 with ⟨_,h0⟩ | ⟨g,cap,cur,hv,hb,hg,hnc,hm,hs,ht⟩
 · omega
 · injection hv with h1 h2 h3
   subst h3;refine ⟨g,cur.toList.drop (n + 1),h1,hb,hn,hnc,hm,?_,?_⟩
   · rw [hg,← ht,Nat.mul_one,List.take_append_drop]
   · rw [← ht,Nat.mul_one,List.take_append_drop]
     simpa using hs
theorem YT {W : World} {base g c k : Nat} {o : List Int} {z : Int} {rest : List Value} (hb : base ≤ g) (hk : k ≤ o.length) (hnc : o.length + 1 ≤ c) (hm : c ≤ maxLen) (hl : (ints o ++ [Value.int .i64 0] ++ rest).length = c)
 (hg : W.heap[g]? = some (.cells (splice (ints o ++ [Value.int .i64 0] ++ rest) (k + 1) (ints (o.drop k))).toArray 3 (0,0))) :
 (∃ v,W.cell? ⟨g,k,none⟩ = some v) ∧ W.frozen? ⟨g,k,none⟩ = false ∧ (W.setCell ⟨g,k,none⟩ (.int .i64 z)).ownsRow base 3 1 (.slice (some ⟨g,0,none⟩) (o.length + 1) c) (o.length + 1) (ints (o.take k ++ z :: o.drop k)) := by
 have HB : Blk W g (splice (ints o ++ [Value.int .i64 0] ++ rest) (k + 1) (ints (o.drop k))).toArray 3 := hg
 have hsl : (splice (ints o ++ [Value.int .i64 0] ++ rest) (k + 1) (ints (o.drop k))).length = c := by
  rw [length_splice _ _ _ (by simp at hl ⊢;omega)];exact hl
 refine ⟨?_,HB.frozen k,?_⟩
 · have hlt : k < (splice (ints o ++ [Value.int .i64 0] ++ rest) (k + 1) (ints (o.drop k))).length := by omega
   exact ⟨_,HB.cell k (by rw [List.getElem?_toArray];exact List.getElem?_eq_getElem hlt)⟩
 · refine ⟨by simp;omega,.inr ⟨g,c,_,rfl,hb,HB.set k _,hnc,hm,by rw [Array.size_setIfInBounds,Nat.mul_one];exact hsl,?_⟩⟩
   rw [Nat.mul_one,← ins_cells o k z hk rest];simp
theorem YJ (W : World) (a : Value) (t : TypeId) : ∀ j u,[a][j]? = some u → (W.alloc (.cells #[a] t)).cell? ((⟨W.heap.size,0,none⟩ : Addr).add j) = some u := by
 intro j u h;have HB := Blk.new W #[a] t
 match j,h with
 | 0,h => simp at h;subst h;exact HB.cell 0 rfl
 | j + 1,h => simp at h
theorem cut_nums {k n c6 : Nat} (hk : k < n) (hn : n ≤ 100000) (hc : n + 1 ≤ c6) : IntKind.i64.wrap ((k : Int) + 1) = ((k + 1 : Nat) : Int) ∧ wrap64 ((k : Int) + 1) = ((k + 1 : Nat) : Int) ∧ (0 : Int) ≤ ((k + 1 : Nat) : Int) ∧ ((k + 1 : Nat) : Int) ≤ ((n + 1 : Nat) : Int) ∧ (k : Int) ≤ ((n + 1 : Nat) : Int) ∧ (0 : Int) ≤ (k : Int) ∧ ¬ c6 = k ∧ ¬ c6 = k + 1 ∧ (0 : Int) ≤ (k : Int) + 1 ∧ k ≤ n ∧ k ≤ n + 1 ∧ (k : Int) ≤ (n : Int) + 1 := by
 have h : wrap64 ((k : Int) + 1) = ((k + 1 : Nat) : Int) := Eq.trans (w64 (by omega) (by omega)) (by omega);exact ⟨by rw [i64_w];exact h,h,by omega,by omega,by omega,by omega,by omega,by omega,by omega,by omega,by omega,by omega⟩
theorem Ja {k n c6 : Nat} (hk : k ≤ n) (hn : n ≤ 100000) (hc : n + 1 ≤ c6) : IntKind.i64.wrap ((k : Int) + 1) = ((k + 1 : Nat) : Int) ∧ wrap64 ((k : Int) + 1) = ((k + 1 : Nat) : Int) ∧ (0 : Int) ≤ ((k + 1 : Nat) : Int) ∧ ((k + 1 : Nat) : Int) ≤ ((n + 1 : Nat) : Int) ∧ (k : Int) ≤ ((n + 1 : Nat) : Int) ∧ (0 : Int) ≤ (k : Int) ∧ ¬ c6 = k ∧ (0 : Int) ≤ (k : Int) + 1 ∧ k ≤ n ∧ k ≤ n + 1 ∧ (k : Int) ≤ (n : Int) + 1 := by
 have h : wrap64 ((k : Int) + 1) = ((k + 1 : Nat) : Int) := Eq.trans (w64 (by omega) (by omega)) (by omega);exact ⟨by rw [i64_w];exact h,h,by omega,by omega,by omega,by omega,by omega,by omega,by omega,by omega,by omega⟩
theorem YE (o : List Int) (k c6 : Nat) (rest : List Value) (hk : k ≤ o.length) (hl : (ints o ++ [Value.int .i64 0] ++ rest).length = c6) (hc : o.length + 1 ≤ c6) :
 (ints (o.drop k)).length = Nat.min (o.length + 1 - k) (o.length - k) ∧ k + 1 + (ints (o.drop k)).length ≤ (ints o ++ [Value.int .i64 0] ++ rest).length := by
 have e : (ints (o.drop k)).length = o.length - k := by simp
 rw [e,hl];exact ⟨(Nat.min_eq_right (by omega)).symm,by omega⟩
theorem J1 (o : List Int) (k : Nat) (z : Int) (h : k ≤ o.length) : (o.take k ++ z :: o.drop k).length = o.length + 1 := by simp;omega
theorem Y0 (kk k n L : Nat) (h : k ≤ n) (hk : kk < L) : (0 : Int) ≤ (kk : Int) ∧ (kk : Int) < (L : Int) ∧ (k : Int) < (n : Int) + 1 ∧ k < n + 1 ∧ kk + 1 ≤ L ∧ k ≤ n ∧ (k : Int) ≤ (n : Int) := ⟨by omega,by omega,by omega,by omega,by omega,h,by omega⟩
theorem Ye {W : World} {g : Nat} {o : List Int} {rest : List Value} (hg : W.heap[g]? = some (.cells (ints o ++ [Value.int .i64 0] ++ rest).toArray 3 (0,0))) (k : Nat) : ∀ j v,(ints (o.drop k))[j]? = some v → W.cell? ((⟨g,k,none⟩ : Addr).add j) = some v := by
 intro j v h
 have hz : (⟨g,k,none⟩ : Addr).add j = ⟨g,k + j,none⟩ := by unfold Addr.add;split <;> simp_all
 rw [hz]
 have h1 : (ints o)[k + j]? = some v := by
  have e : ints (o.drop k) = (ints o).drop k := by simp [ints,List.map_drop]
  rw [e,List.getElem?_drop] at h;exact h
 have h2 := (List.getElem?_eq_some_iff.1 h1).1;refine Blk.cell (W := W) (b := g) (cs := (ints o ++ [Value.int .i64 0] ++ rest).toArray) (t := 3) hg (k + j) ?_;rw [List.getElem?_toArray,List.append_assoc,List.getElem?_append_left h2];exact h1
theorem YA (l : List Int) : ∀ v ∈ ints l,v.oneCell' = true := by
 intro v hv;simp only [ints,List.mem_map] at hv;obtain ⟨x,_,rfl⟩ := hv;rfl
set_option maxRecDepth 100000 in
set_option maxHeartbeats 8000000 in
theorem cuts_calls (A : Option Addr) (c : Nat) (l : List Int) (w : World) (hl : l.length ≤ 100000) (hr : (Kd.int .i64).C w A l.length l) :
 Calls Try.prog 112 #[.slice A l.length c] w fun e w' => ∃ v,e = .returned v ∧ w'.ownsRow w.heap.size 3 1 v (cutsL l).length (ints (cutsL l)) ∧ Below w.heap.size w w' := by
 have HR := Zc.mk hr;clear hr;obtain ⟨i0,hi,hz0,hz1,hz2⟩ := info_parts info3
 go_enter Try.func112,Try.ntmps112
 go_wp2
 go_loopg [3,4,5] l.length (fun gg s3 s4 s5 wr => ∃ (kk : Nat) (B : Option Addr) (cB : Nat),kk ≤ l.length ∧ l.length - kk ≤ gg ∧ s4 = .int .i64 kk ∧ s3 = .slice B (cutsL (l.take kk)).length cB ∧ Zc (Below w.heap.size w wr) ∧ Zc (wr.ownsRow w.heap.size 3 1 (.slice B (cutsL (l.take kk)).length cB) (cutsL (l.take kk)).length (ints (cutsL (l.take kk)))))
 case atStart => exact ⟨0,none,0,Nat.zero_le _,by omega,rfl,rfl,⟨Below.refl _ w⟩,⟨World.ownsRow_nil _ _ _ _⟩⟩
 case round =>
  obtain ⟨kk,B,cB,hkk,hgg,rfl,rfl,BW,HO⟩ := hrel
  by_cases hlt : kk < l.length
  · have hltz : (kk : Int) < (l.length : Int) := by omega
    obtain ⟨ad,eA,hx0⟩ := Kd.XI (Kd.ZB HR.out BW.out) (kk : Int) (by omega) (by omega)
    cases eA
    simp only [Int.toNat_natCast] at hx0;have hel := rd_getElem l kk hlt;generalize hy : rd l (kk : Int) = z at hx0 hel;have HZ := Zc.mk hy;clear hy;have HT := Zc.mk (cutsL_take l kk z hel);have HMS := Zc.mk (show l.length - (kk + 1) < gk by omega)
    have hol : (cutsL (l.take kk)).length ≤ 100000 := by have := QX (l.take kk);rw [List.length_take] at this;omega
    generalize hzs : cutsL (l.take kk) = o at HO HT hol ⊢;clear hzs hel
    go_wp2
    go_loopg [5] (o.length + 1) (fun gg s5 wr => ∃ k : Nat,k ≤ placeC o z ∧ o.length + 1 - k ≤ gg ∧ s5 = .int .i64 k ∧ Zc (Below w.heap.size w wr) ∧ Zc (wr.ownsRow w.heap.size 3 1 (.slice B o.length cB) o.length (ints o)))
    case atStart => exact ⟨0,Nat.zero_le _,by omega,rfl,BW,HO⟩
    case round =>
     clear hx0 BW HO;obtain ⟨k,hk,hg2,rfl,BW,HO⟩ := hrel;have hkl : placeC o z ≤ o.length := Jk z o;obtain ⟨ad',eA',hx0⟩ := Kd.XI (Kd.ZB HR.out BW.out) (kk : Int) (by omega) (by omega)
     cases eA'
     rw [HZ.out] at hx0;simp only [Int.toNat_natCast] at hx0
     by_cases hp : k < placeC o z
     · have hko : k < o.length := by omega
       have hkoz : (k : Int) < (o.length : Int) := by omega
       obtain ⟨g,rfl,hge,hc⟩ := JH HO.out k hko;have hu : o.getD k 0 < z := Jq z o k _ hp (by rw [List.getD_eq_getElem?_getD,List.getElem?_eq_getElem hko];rfl);generalize o.getD k 0 = u at hc hu;have hub : decide (u < z) = true := decide_eq_true hu
       have k0 : (0 : Int) ≤ (k : Int) := by omega
       go_wp2
       go_quiet (fail)
       go_wp2
       go_roundg (o.length + 1 - (k + 1))
       case measure => omega
       case rel => exact ⟨k + 1,by omega,by omega,by go_num,⟨Za BW.out _⟩,⟨HO.out⟩⟩
     · have HKE := Zc.mk (show k = placeC o z by omega)
       have hkle : k ≤ o.length := by omega
       clear hp hk
       by_cases hko : k < o.length
       · have hkoz : (k : Int) < (o.length : Int) := by omega
         obtain ⟨g,rfl,hge,hc⟩ := JH HO.out k hko
         have hel : o[k]? = some (o.getD k 0) := by rw [List.getD_eq_getElem?_getD,List.getElem?_eq_getElem hko];rfl
         have hu : ¬ o.getD k 0 < z := Jc z o _ (by rw [← HKE.out];exact hel);generalize o.getD k 0 = u at hc hu hel;have HEL := Zc.mk hel;clear hel;have hub : decide (u < z) = false := decide_eq_false hu
         have k0 : (0 : Int) ≤ (k : Int) := by omega
         by_cases hz : u = z
         · have hzb : (u != z) = false := bne_eq_false_iff_eq.mpr hz
           have hkn : ((k : Int) == (o.length : Int)) = false := beq_eq_false_iff_ne.mpr (by omega);have HS := Zc.mk (show cutsL (l.take (kk + 1)) = o by rw [HT.out,XX,← HKE.out,HEL.out,if_pos (by rw [hz])]);clear hz
           go_wp2
           go_quiet (fail)
           go_wp2
           go_quiet (fail)
           go_wp2
           go_roundg (l.length - (kk + 1))
           case measure => omega
           case rel => exact ⟨kk + 1,_,cB,by omega,by omega,by go_num,by rw [HS.out],⟨Za BW.out _⟩,⟨by rw [HS.out];exact HO.out⟩⟩
         · have hzb : (u != z) = true := bne_iff_ne.mpr hz
           have hkn : ((k : Int) == (o.length : Int)) = false := beq_eq_false_iff_ne.mpr (by omega)
           go_wp2
           go_quiet (fail)
           go_wp2
           go_quiet (fail)
           go_wp2_with (first | (at_builtin;refine wpList_append_own _ rfl (.tmp 44) (.tmp 45) 32 rfl w.heap.size 3 i0 (.int .i64 0) 1 8 Try.underlying32 hi hz0 hz1 hz2 rfl (by decide) (.slice (some ⟨g,0,none⟩) o.length cB) o.length (ints o) rfl ?own ⟨wr.heap.size,0,none⟩ 1 1 [.int .i64 0] rfl rfl ?c1 ?c2 ?c3 ?c4 ?c5 ?_;(case own => exact (World.ownsRow.alloc (w := wr.drewN _) HO.out _));(case c1 => exact YJ _ _ _);(case c2 => intro u hu;simp only [List.mem_cons,List.not_mem_nil,or_false] at hu;rcases hu with rfl;rfl);(case c3 => unfold maxLen;omega);(case c4 => omega);(case c5 => have := BW.out.size;simp;omega);intro v' w6 hown hgr _;have HG6 := Zc.mk hgr;obtain ⟨B6,c6,rfl⟩ := XN hown;obtain ⟨g6,rest,rfl,hge6,_,hnc6,hm6,hg6,hl6⟩ := Jb hown;clear hown hgr))
           have HB6 := Zc.mk (show Below w.heap.size w w6 from Xy ((Za BW.out _).alloc BW.out.size _) (Nat.le_trans BW.out.size (by rw [World.size_alloc];exact Nat.le_succ _)) HG6.out (fun kk hk => (Xm HO.out hk).1));have HSRC := Zc.mk (Ye hg6 k);have HONE := Zc.mk (YA (o.drop k));have HG := Zc.mk hg6;have HL := Zc.mk hl6;have HN := Zc.mk (YE o k c6 rest (Nat.le_of_lt hko) hl6 hnc6);clear hg6 hl6;obtain ⟨j0,j1,j2,j3,j4,k0,j5,j6,j7,j8,j9,ja⟩ := cut_nums hko hol hnc6;refine wp_region_any (by kernel_rfl) ?_;refine wpAny_take (i := 0) (v := ?_) rfl (by kernel_rfl) (by kernel_rfl) (by kernel_rfl) (fun _ _ _ h => h) (Or.inl ⟨by rfl,?_⟩) ?_;rotate_left
           · intro w
             first | (go_simp;done) | (go_simp;with_reducible rfl)
           refine wpAny_take (i := 1) (v := ?_) rfl (by kernel_rfl) (by kernel_rfl) (by kernel_rfl) (fun _ _ _ h => h) (Or.inl ⟨by rfl,?_⟩) ?_;rotate_left
           · intro w
             first | (go_simp;done) | (go_simp;with_reducible rfl)
           refine wpAny_take (i := 2) (v := ?_) rfl (by kernel_rfl) (by kernel_rfl) (by kernel_rfl) (fun _ _ _ h => h) (Or.inl ⟨by rfl,?_⟩) ?_;rotate_left
           · intro w
             first | (go_simp;done) | (go_simp;with_reducible rfl)
           refine wpAny_take (i := 3) (v := ?_) rfl (by kernel_rfl) (by kernel_rfl) (by kernel_rfl) (fun _ _ _ h => h) (Or.inl ⟨by rfl,?_⟩) ?_;rotate_left
           · intro w
             first | (go_simp;done) | (go_simp;with_reducible rfl)
           refine wpAny_take (i := 4) (v := ?_) rfl (by kernel_rfl) (by kernel_rfl) (by kernel_rfl) (fun _ _ _ h => h) (Or.inl ⟨by rfl,?_⟩) ?_;rotate_left
           · intro w
             first | (go_simp;done) | (go_simp;with_reducible rfl)
           refine wpAny_take (i := 5) (v := ?_) rfl (by kernel_rfl) (by kernel_rfl) (by kernel_rfl) (fun _ _ _ h => h) (Or.inl ⟨by rfl,?_⟩) ?_;rotate_left
           · intro w
             first | (go_simp;done) | (go_simp;with_reducible rfl)
           refine wpAny_take (i := 6) (v := ?_) rfl (by kernel_rfl) (by kernel_rfl) (by kernel_rfl) (fun _ _ _ h => h) (Or.inl ⟨by rfl,?_⟩) ?_;rotate_left
           · intro w
             first | (go_simp;done) | (go_simp;with_reducible rfl)
           refine wpAny_ready (rs := [7]) (by kernel_rfl) (by simp) ?_;refine AllReady.cons rfl (fun K hK => ?_) AllReady.nil;refine step_copy_splice rfl (.tmp 50) (.tmp 53) 32 32 rfl 3 Try.underlying32 (by kernel_rfl) (some ⟨g6,k + 1,none⟩) (some ⟨g6,k,none⟩) (o.length - k) (c6 - (k + 1)) (o.length + 1 - k) (c6 - k) (by simp [Act.eval,Act.put]) (by simp [Act.eval,Act.put]) g6 (k + 1) (ints o ++ [Value.int .i64 0] ++ rest) 3 HG.out (ints (o.drop k)) HN.out.1 (fun _ => ⟨rfl,_,rfl,HSRC.out⟩) HN.out.2 HONE.out w.heap.size w (Zd HB6.out) hge6 ?_;intro w7 hg7 hb7;refine hK _ _ ?_;clear hK K;refine wpAny_done (by kernel_rfl) ?_ _;have HINS := Zc.mk (show cutsL (l.take (kk + 1)) = o.take k ++ z :: o.drop k by rw [HT.out,XX,← HKE.out,if_neg (by rw [HEL.out];intro h;exact hz (Option.some.inj h))]);obtain ⟨⟨vk,dk⟩,fk,hown7⟩ := YT (base := w.heap.size) (z := z) hge6 (Nat.le_of_lt hko) hnc6 hm6 HL.out hg7;obtain ⟨p0,pL,p1,p2,p3,p4,p5⟩ := Y0 kk k o.length l.length (Nat.le_of_lt hko) hlt;obtain ⟨ad7,eA7,hx7⟩ := Kd.XI (Kd.ZB HR.out hb7) (kk : Int) p0 pL
           cases eA7
           rw [HZ.out] at hx7;simp only [Int.toNat_natCast] at hx7;have HOW := Zc.mk hown7;have HB7 := Zc.mk hb7;have HLE := Zc.mk (J1 o k z (Nat.le_of_lt hko));clear hg7 hb7 hown7 HG HL HN HSRC HONE HB6
           try simp only [Act.put,V6,V7,V8]
           go_wp2
           go_roundg (l.length - (kk + 1))
           case measure => exact HMS.out
           case rel => exact ⟨kk + 1,some ⟨g6,0,none⟩,c6,p3,Nat.le_refl _,by go_num,by rw [HINS.out,HLE.out],⟨HB7.out.setCell (p := ⟨g6,k,none⟩) hge6 _⟩,⟨by rw [HINS.out,HLE.out];exact HOW.out⟩⟩
       · have HKL := Zc.mk (show k = o.length by omega)
         have q1 : decide ((k : Int) < (o.length : Int)) = false := decide_eq_false (by omega)
         have q1' : ¬ (k : Int) < (o.length : Int) := by omega
         have q2 : ((k : Int) == (o.length : Int)) = true := beq_iff_eq.mpr (by omega);have q3 : decide (k < o.length) = false := decide_eq_false (by omega);have q4 : (k == o.length) = true := beq_iff_eq.mpr (by omega)
         have q5 : ¬ k < o.length := by omega
         have k00 : (0 : Int) ≤ (k : Int) := by omega
         clear hko hkl hg2 hkle
         go_wp2
         go_quiet (fail)
         go_wp2
         go_quiet (fail)
         go_wp2_with (first | (at_builtin;refine wpList_append_own _ rfl (.tmp 44) (.tmp 45) 32 rfl w.heap.size 3 i0 (.int .i64 0) 1 8 Try.underlying32 hi hz0 hz1 hz2 rfl (by decide) (.slice B o.length cB) o.length (ints o) rfl ?own ⟨wr.heap.size,0,none⟩ 1 1 [.int .i64 0] rfl rfl ?c1 ?c2 ?c3 ?c4 ?c5 ?_;(case own => exact (World.ownsRow.alloc (w := wr.drewN _) HO.out _));(case c1 => exact YJ _ _ _);(case c2 => intro u hu;simp only [List.mem_cons,List.not_mem_nil,or_false] at hu;rcases hu with rfl;rfl);(case c3 => unfold maxLen;omega);(case c4 => omega);(case c5 => have := BW.out.size;simp;omega);intro v' w6 hown hgr _;have HG6 := Zc.mk hgr;obtain ⟨B6,c6,rfl⟩ := XN hown;obtain ⟨g6,rest,rfl,hge6,_,hnc6,hm6,hg6,hl6⟩ := Jb hown;clear hown hgr))
         by_cases hcc : c6 = k + 1
         · have j6 : (c6 = k + 1) = True := eq_true hcc
           clear hcc;have HB6 := Zc.mk (show Below w.heap.size w w6 from Xy ((Za BW.out _).alloc BW.out.size _) (Nat.le_trans BW.out.size (by rw [World.size_alloc];exact Nat.le_succ _)) HG6.out (fun kk hk => (Xm HO.out hk).1));have HSRC := Zc.mk (Ye hg6 k);have HONE := Zc.mk (YA (o.drop k));have HG := Zc.mk hg6;have HL := Zc.mk hl6;have HN := Zc.mk (YE o k c6 rest (Nat.le_of_eq HKL.out) hl6 hnc6);clear hg6 hl6;obtain ⟨j0,j1,j2,j3,j4,k0,j5,j7,j8,j9,ja⟩ := Ja (Nat.le_of_eq HKL.out) hol hnc6;have HZ0 := Zc.mk (show (ints (o.drop k)).length = 0 by rw [List.drop_eq_nil_of_le (Nat.le_of_eq HKL.out.symm)];rfl);refine wp_region_any (by kernel_rfl) ?_;refine wpAny_take (i := 0) (v := ?_) rfl (by kernel_rfl) (by kernel_rfl) (by kernel_rfl) (fun _ _ _ h => h) (Or.inl ⟨by rfl,?_⟩) ?_;rotate_left
           · intro w
             first | (go_simp;done) | (go_simp;with_reducible rfl)
           refine wpAny_take (i := 1) (v := ?_) rfl (by kernel_rfl) (by kernel_rfl) (by kernel_rfl) (fun _ _ _ h => h) (Or.inl ⟨by rfl,?_⟩) ?_;rotate_left
           · intro w
             first | (go_simp;done) | (go_simp;with_reducible rfl)
           refine wpAny_take (i := 2) (v := ?_) rfl (by kernel_rfl) (by kernel_rfl) (by kernel_rfl) (fun _ _ _ h => h) (Or.inl ⟨by rfl,?_⟩) ?_;rotate_left
           · intro w
             first | (go_simp;done) | (go_simp;with_reducible rfl)
           refine wpAny_take (i := 3) (v := ?_) rfl (by kernel_rfl) (by kernel_rfl) (by kernel_rfl) (fun _ _ _ h => h) (Or.inl ⟨by rfl,?_⟩) ?_;rotate_left
           · intro w
             first | (go_simp;done) | (go_simp;with_reducible rfl)
           refine wpAny_take (i := 4) (v := ?_) rfl (by kernel_rfl) (by kernel_rfl) (by kernel_rfl) (fun _ _ _ h => h) (Or.inl ⟨by rfl,?_⟩) ?_;rotate_left
           · intro w
             first | (go_simp;done) | (go_simp;with_reducible rfl)
           refine wpAny_take (i := 5) (v := ?_) rfl (by kernel_rfl) (by kernel_rfl) (by kernel_rfl) (fun _ _ _ h => h) (Or.inl ⟨by rfl,?_⟩) ?_;rotate_left
           · intro w
             first | (go_simp;done) | (go_simp;with_reducible rfl)
           refine wpAny_take (i := 6) (v := ?_) rfl (by kernel_rfl) (by kernel_rfl) (by kernel_rfl) (fun _ _ _ h => h) (Or.inl ⟨by rfl,?_⟩) ?_;rotate_left
           · intro w
             first | (go_simp;done) | (go_simp;with_reducible rfl)
           refine wpAny_ready (rs := [7]) (by kernel_rfl) (by simp) ?_;refine AllReady.cons rfl (fun K hK => ?_) AllReady.nil;refine step_copy_splice rfl (.tmp 50) (.tmp 53) 32 32 rfl 3 Try.underlying32 (by kernel_rfl) (some ⟨g6,0,none⟩) (some ⟨g6,k,none⟩) (o.length - k) (c6 - (k + 1)) (o.length + 1 - k) (c6 - k) (by simp [Act.eval,Act.put]) (by simp [Act.eval,Act.put]) g6 (k + 1) (ints o ++ [Value.int .i64 0] ++ rest) 3 HG.out (ints (o.drop k)) HN.out.1 (fun h => absurd h (by rw [HZ0.out];exact Nat.lt_irrefl 0)) HN.out.2 HONE.out w.heap.size w (Zd HB6.out) hge6 ?_;intro w7 hg7 hb7;refine hK _ _ ?_;clear hK K;refine wpAny_done (by kernel_rfl) ?_ _;have HINS := Zc.mk (show cutsL (l.take (kk + 1)) = o.take k ++ z :: o.drop k by rw [HT.out,XX,← HKE.out,if_neg (by rw [List.getElem?_eq_none (Nat.le_of_eq HKL.out.symm)];exact fun h => by cases h)]);obtain ⟨⟨vk,dk⟩,fk,hown7⟩ := YT (base := w.heap.size) (z := z) hge6 (Nat.le_of_eq HKL.out) hnc6 hm6 HL.out hg7;obtain ⟨p0,pL,p1,p2,p3,p4,p5⟩ := Y0 kk k o.length l.length (Nat.le_of_eq HKL.out) hlt;obtain ⟨ad7,eA7,hx7⟩ := Kd.XI (Kd.ZB HR.out hb7) (kk : Int) p0 pL
           cases eA7
           rw [HZ.out] at hx7;simp only [Int.toNat_natCast] at hx7;have HOW := Zc.mk hown7;have HB7 := Zc.mk hb7;have HLE := Zc.mk (J1 o k z (Nat.le_of_eq HKL.out));clear hg7 hb7 hown7 HG HL HN HSRC HONE HB6
           try simp only [Act.put,V6,V7,V8]
           go_wp2
           go_roundg (l.length - (kk + 1))
           case measure => exact HMS.out
           case rel => exact ⟨kk + 1,some ⟨g6,0,none⟩,c6,p3,Nat.le_refl _,by go_num,by rw [HINS.out,HLE.out],⟨HB7.out.setCell (p := ⟨g6,k,none⟩) hge6 _⟩,⟨by rw [HINS.out,HLE.out];exact HOW.out⟩⟩
         · have j6 : ¬ c6 = k + 1 := hcc
           clear hcc;have HB6 := Zc.mk (show Below w.heap.size w w6 from Xy ((Za BW.out _).alloc BW.out.size _) (Nat.le_trans BW.out.size (by rw [World.size_alloc];exact Nat.le_succ _)) HG6.out (fun kk hk => (Xm HO.out hk).1));have HSRC := Zc.mk (Ye hg6 k);have HONE := Zc.mk (YA (o.drop k));have HG := Zc.mk hg6;have HL := Zc.mk hl6;have HN := Zc.mk (YE o k c6 rest (Nat.le_of_eq HKL.out) hl6 hnc6);clear hg6 hl6;obtain ⟨j0,j1,j2,j3,j4,k0,j5,j7,j8,j9,ja⟩ := Ja (Nat.le_of_eq HKL.out) hol hnc6;have HZ0 := Zc.mk (show (ints (o.drop k)).length = 0 by rw [List.drop_eq_nil_of_le (Nat.le_of_eq HKL.out.symm)];rfl);refine wp_region_any (by kernel_rfl) ?_;refine wpAny_take (i := 0) (v := ?_) rfl (by kernel_rfl) (by kernel_rfl) (by kernel_rfl) (fun _ _ _ h => h) (Or.inl ⟨by rfl,?_⟩) ?_;rotate_left
           · intro w
             first | (go_simp;done) | (go_simp;with_reducible rfl)
           refine wpAny_take (i := 1) (v := ?_) rfl (by kernel_rfl) (by kernel_rfl) (by kernel_rfl) (fun _ _ _ h => h) (Or.inl ⟨by rfl,?_⟩) ?_;rotate_left
           · intro w
             first | (go_simp;done) | (go_simp;with_reducible rfl)
           refine wpAny_take (i := 2) (v := ?_) rfl (by kernel_rfl) (by kernel_rfl) (by kernel_rfl) (fun _ _ _ h => h) (Or.inl ⟨by rfl,?_⟩) ?_;rotate_left
           · intro w
             first | (go_simp;done) | (go_simp;with_reducible rfl)
           refine wpAny_take (i := 3) (v := ?_) rfl (by kernel_rfl) (by kernel_rfl) (by kernel_rfl) (fun _ _ _ h => h) (Or.inl ⟨by rfl,?_⟩) ?_;rotate_left
           · intro w
             first | (go_simp;done) | (go_simp;with_reducible rfl)
           refine wpAny_take (i := 4) (v := ?_) rfl (by kernel_rfl) (by kernel_rfl) (by kernel_rfl) (fun _ _ _ h => h) (Or.inl ⟨by rfl,?_⟩) ?_;rotate_left
           · intro w
             first | (go_simp;done) | (go_simp;with_reducible rfl)
           refine wpAny_take (i := 5) (v := ?_) rfl (by kernel_rfl) (by kernel_rfl) (by kernel_rfl) (fun _ _ _ h => h) (Or.inl ⟨by rfl,?_⟩) ?_;rotate_left
           · intro w
             first | (go_simp;done) | (go_simp;with_reducible rfl)
           refine wpAny_take (i := 6) (v := ?_) rfl (by kernel_rfl) (by kernel_rfl) (by kernel_rfl) (fun _ _ _ h => h) (Or.inl ⟨by rfl,?_⟩) ?_;rotate_left
           · intro w
             first | (go_simp;done) | (go_simp;with_reducible rfl)
           refine wpAny_ready (rs := [7]) (by kernel_rfl) (by simp) ?_;refine AllReady.cons rfl (fun K hK => ?_) AllReady.nil;refine step_copy_splice rfl (.tmp 50) (.tmp 53) 32 32 rfl 3 Try.underlying32 (by kernel_rfl) (some ⟨g6,k + 1,none⟩) (some ⟨g6,k,none⟩) (o.length - k) (c6 - (k + 1)) (o.length + 1 - k) (c6 - k) (by simp [Act.eval,Act.put]) (by simp [Act.eval,Act.put]) g6 (k + 1) (ints o ++ [Value.int .i64 0] ++ rest) 3 HG.out (ints (o.drop k)) HN.out.1 (fun h => absurd h (by rw [HZ0.out];exact Nat.lt_irrefl 0)) HN.out.2 HONE.out w.heap.size w (Zd HB6.out) hge6 ?_;intro w7 hg7 hb7;refine hK _ _ ?_;clear hK K;refine wpAny_done (by kernel_rfl) ?_ _;have HINS := Zc.mk (show cutsL (l.take (kk + 1)) = o.take k ++ z :: o.drop k by rw [HT.out,XX,← HKE.out,if_neg (by rw [List.getElem?_eq_none (Nat.le_of_eq HKL.out.symm)];exact fun h => by cases h)]);obtain ⟨⟨vk,dk⟩,fk,hown7⟩ := YT (base := w.heap.size) (z := z) hge6 (Nat.le_of_eq HKL.out) hnc6 hm6 HL.out hg7;obtain ⟨p0,pL,p1,p2,p3,p4,p5⟩ := Y0 kk k o.length l.length (Nat.le_of_eq HKL.out) hlt;obtain ⟨ad7,eA7,hx7⟩ := Kd.XI (Kd.ZB HR.out hb7) (kk : Int) p0 pL
           cases eA7
           rw [HZ.out] at hx7;simp only [Int.toNat_natCast] at hx7;have HOW := Zc.mk hown7;have HB7 := Zc.mk hb7;have HLE := Zc.mk (J1 o k z (Nat.le_of_eq HKL.out));clear hg7 hb7 hown7 HG HL HN HSRC HONE HB6
           try simp only [Act.put,V6,V7,V8]
           go_wp2
           go_roundg (l.length - (kk + 1))
           case measure => exact HMS.out
           case rel => exact ⟨kk + 1,some ⟨g6,0,none⟩,c6,p3,Nat.le_refl _,by go_num,by rw [HINS.out,HLE.out],⟨HB7.out.setCell (p := ⟨g6,k,none⟩) hge6 _⟩,⟨by rw [HINS.out,HLE.out];exact HOW.out⟩⟩
  · have hltz : ¬ (kk : Int) < (l.length : Int) := by omega
    obtain rfl : kk = l.length := by omega
    rw [List.take_length] at HO ⊢
    go_wp2
    go_ret;exact ⟨_,rfl,HO.out,BW.out⟩
end Go.Proofs.Ythbajahklnpkcaa.PA

namespace Go.Proofs.Ythbajahklnpkcaa.PA
open Go.RowKit Go.Shelf Go.Proofs.YthbajahklnpkcaaW.PrintWords Go.Proofs.YthbajahklnpkcaaW.PrintLast Go.Proofs.YthbajahklnpkcaaW.PrintMore
set_option linter.unusedVariables false
theorem Jr (W : World) (base : Nat) (ok : Nat → Prop) : ∀ l : List Int,Reps ((Kd.int .i64).M W base ok) 1 l (ints l)
 | [] => Reps.none _ _
 | x :: l => Reps.one (show (Kd.int .i64).M W base ok x [.int .i64 x] from rfl) (Jr W base ok l)
theorem ints_R {W : World} {base : Nat} {v : Value} {l : List Int} (h : W.ownsRow base 3 1 v l.length (ints l)) : Kd.R (Kd.int .i64) 3 W base (fun _ => True) v l := ⟨fun _ _ => trivial,ints l,h,Jr _ _ _ l⟩
def Xc.f (l0 : List Int) : Option (List Int) := if l0.length ≤ 100000 then some (cutsL l0) else none
theorem Xc.calls (A0 : Option Addr) (c0 : Nat) (l0 : List Int) (r : List Int) (w : World) (hr0 : (Kd.int .i64).C w A0 l0.length l0) (hc0 : l0.length ≤ c0) (h : Xc.f l0 = some r) :
 Calls Try.prog 112 #[.slice A0 l0.length c0] w fun e w' => ∃ v0_ : Value,e = .returned v0_ ∧ Kd.R (Kd.int .i64) 3 w' w.heap.size (fun _ => True) v0_ r ∧ Below w.heap.size w w' := by
 unfold Xc.f at h;split at h
 case isTrue hl =>
  cases h
  exact (cuts_calls A0 c0 l0 w hl hr0).mono (fun e w' ⟨v,he,ho,hb⟩ => ⟨v,he,ints_R ho,hb⟩)
 case isFalse => cases h
end Go.Proofs.Ythbajahklnpkcaa.PA

namespace Go.Proofs.Ythbajahklnpkcaa.PA
open Go.RowKit Go.Proofs.YthbajahklnpkcaaW.PrintWords Go.Proofs.YthbajahklnpkcaaW.PrintLast Go.Proofs.YthbajahklnpkcaaW.PrintMore
attribute [local go_sem] ZN ZO ZZ Xb ZI ZJ ZQ ZP
set_option linter.unusedVariables false
set_option linter.unusedSimpArgs false
end Go.Proofs.Ythbajahklnpkcaa.PA
