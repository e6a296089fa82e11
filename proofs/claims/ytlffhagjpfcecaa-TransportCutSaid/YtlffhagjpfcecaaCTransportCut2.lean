/- TransportCut -/
import Derived.Test.YtlffhagjpfcecaaCTransportCut1
import Derived.Deep.DeepCutAuto
import Derived.Lib.Hide
import Derived.Deep.CutBlock
import Derived.Deep.RegionHeld3
import Derived.Deep.QuietTactic
import Derived.BigQuiet
import Derived.Deep.AppendLies
import Derived.Test.YtlffhagjpfcecaaRows
import Derived.WalkKit
import Derived.ProofKit
import Derived.OpenShut
import Derived.ShutString
import Derived.ChangeOld
import Derived.Below
import Derived.SizedLaws
import Derived.Lib.SmallJoins
import Derived.ChangeSlices
namespace Go.Proofs.Ytlffhagjpfcecaa.PA
open Go.RowKit Go.Maps Go.Shelf Go.Sort Go.Proofs.YtlffhagjpfcecaaW.PrintWords Go.Proofs.YtlffhagjpfcecaaW.PrintLast Go.Proofs.YtlffhagjpfcecaaW.PrintMore
set_option linter.unusedVariables false
set_option linter.unusedSimpArgs false
def asksDo (l : List Ask) (s : TS) : TS := l.foldl (fun s a => doAsk a s) s
theorem beginM_aq (s : TS) : (beginM s).aq = s.aq := by
 unfold beginM rollM
 split <;> rfl
theorem doAsk_aq (a : Ask) (s : TS) : (doAsk a s).aq = s.aq := by
 cases a <;> simp only [doAsk]
 · split
   · exact beginM_aq s
   · rfl
 · split
   · exact beginM_aq _
   · rfl
theorem asksDo_aq : ∀ (l : List Ask) (s : TS), (asksDo l s).aq = s.aq
 | [], s => rfl
 | a :: l, s => by
  show (asksDo l (doAsk a s)).aq = s.aq
  rw [asksDo_aq l, doAsk_aq]
theorem asksDo_snoc (l : List Ask) (a : Ask) (s : TS) : asksDo (l ++ [a]) s = doAsk a (asksDo l s) := by
 unfold asksDo
 rw [List.foldl_append]
 rfl
def clearM (s : TS) : TS := { s with aq := [] }
def waitM (s : TS) : TS := if s.st = 1 then (if unr s.sl = [] ∨ (s.fr = false ∧ s.wt ≤ s.wd) then rollM s else { s with wd := wrap64 (s.wd + 1) }) else s
def AsR (W : World) (S C : Nat → Prop) (p : Nat) (s : TS) (m : Nat) (va : Value) (fs : List Value) (v14 : Value) (wr : World) : Prop :=
 ∃ (i : Nat) (vm' : Value), v14 = .int .i64 i ∧ i ≤ fs.length ∧ TAtW wr (Sx W S) C p (asksDo (s.aq.take i) s) m vm' va fs ∧ Step W wr S
theorem AsR.more {W wr w2 : World} {S C : Nat → Prop} {p : Nat} {s : TS} {m : Nat} {va vm' : Value} {fs : List Value} {i : Nat} {a : Ask} (hd : ∀ k, C k → ¬ Sx W S k) (hi : i < s.aq.length) (ha : s.aq[i] = a) (hil : i < fs.length)
 (hT : TAtW w2 (Sx wr (Sx W S)) C p (doAsk a (asksDo (s.aq.take i) s)) m vm' va fs) (hS : Step W wr S) (hS2 : Step wr w2 (Sx W S)) : AsR W S C p s m va fs (.int .i64 ((i : Int) + 1)) w2 := by
 have hz : W.heap.size ≤ wr.heap.size := hS.kept.1
 refine ⟨i + 1, vm', by go_num, by omega, ?_, hS.trans hS2 (fun _ => id)⟩
 have e : asksDo (s.aq.take (i + 1)) s = doAsk a (asksDo (s.aq.take i) s) := by
  rw [List.take_succ_eq_append_getElem hi, asksDo_snoc, ha]
 rw [e]
 refine hT.more (fun k hk => ?_) hd
 rcases hk with hk | hk
 · exact hk
 · exact .inr (Nat.le_trans hz hk)
theorem al_ok {s : TS} (h : TOk s) : TOk (clearM s) := ⟨h.p0, h.p1, h.b0, h.b1, h.e0, h.e1, h.be, h.s0, h.s1, h.wt0, h.wt1, h.asc, h.key, h.ll, h.ml, Nat.zero_le _, fun _ h => by cases h⟩
theorem TAtW.cleared {W : World} {S C : Nat → Prop} {p : Nat} {s : TS} {m : Nat} {vm va : Value} {fs : List Value} (h : TAtW W S C p s m vm va fs) :
 TAtW (W.setCell ⟨p, 10, none⟩ (.slice none 0 0)) S C p (clearM s) m vm (.slice none 0 0) [] where
 B := h.B.set 10 _
 M := h.M.same (other_set h.pm)
 V := row_same h.V (fun k e => other_set (row_ne h.V h.B (by decide) k e))
 A := ⟨rfl, .inl ⟨rfl, rfl⟩⟩
 Fl := rfl
 F := fun i a f e1 e2 => by simp at e2
 sp := h.sp
 sm := h.sm
 sv := h.sv
 sa := fun k e => by cases e
 dj := h.dj
 cl := fun k hc => by have := h.cl k hc; simpa using this
 ok := al_ok h.ok
def outM (s : TS) (fr : Int) : Option (List S39 × TS) :=
 if s.st = 2 then (if rollOk s fr then some (rollL s fr, { s with ps := rollE s fr, cy := wrap64 (s.cy + 1) }) else none)
 else some (stillL s fr, { s with cy := wrap64 (s.cy + 1) })
def cycM (s : TS) (fr : Int) : Option (List S39 × TS) := outM (waitM (clearM (asksDo s.aq s))) fr
def CycPost (W : World) (S C : Nat → Prop) (p m : Nat) (r : Option (List S39 × TS)) (e : Ending) (w' : World) : Prop :=
 match r with
 | some (l, s') => ∃ v vm', e = .returned v ∧ w'.ownsRow W.heap.size 39 3 v l.length (fl39 l) ∧ TAtW w' (Sx W S) C p s' m vm' (.slice none 0 0) [] ∧ Step W w' S
 | none => e = .panicked [{ v := stopV 4, recovered := false }] ∧ Step W w' S
theorem cyc_close {W wc w3 : World} {S C : Nat → Prop} {p m : Nat} {s2 : TS} {vm' v : Value} {l : List S39} {at_ : Int} (hT : TAtW wc (Sx W S) C p s2 m vm' (.slice none 0 0) []) (hS : Step W wc S) (hp : S p)
 (hrow : w3.ownsRow W.heap.size 39 3 v l.length (fl39 l)) (hb : Below wc.heap.size wc w3) (ha0 : 0 ≤ at_) (ha1 : at_ ≤ 1000000000) (hnp : p < W.heap.size) :
 CycPost W S C p m (some (l, { s2 with ps := at_, cy := wrap64 (s2.cy + 1) })) (.returned v) ((w3.setCell ⟨p, 3, none⟩ (.int .i64 at_)).setCell ⟨p, 9, none⟩ (.int .i64 (wrap64 (s2.cy + 1)))) := by
 have hT3 := hT.below hb
 have h1 := hT3.set (s' := { s2 with ps := at_ }) 3 (.int .i64 at_) rfl rfl rfl rfl (ps_ok hT.ok ha0 ha1)
 have h2 := h1.set (s' := { s2 with ps := at_, cy := wrap64 (s2.cy + 1) }) 9 (.int .i64 (wrap64 (s2.cy + 1))) rfl rfl rfl rfl (cy_ok (ps_ok hT.ok ha0 ha1) _)
 refine ⟨v, vm', rfl, row_same hrow (fun k e => ?_), h2, ?_⟩
 · have hk : k ≠ p := by have := (hrow.lt k e).1; omega
   exact (other_set hk).trans (other_set hk)
 · exact ((hS.trans (Step.of_below hb S) (fun _ => .inl)).trans (Step.set _ ⟨p, 3, none⟩ _ hp) (fun _ => .inl)).trans (Step.set _ ⟨p, 9, none⟩ _ hp) (fun _ => .inl)
set_option maxRecDepth 100000 in
set_option maxHeartbeats 4000000 in
theorem cycle_calls {W : World} {S C : Nat → Prop} {p : Nat} {s : TS} {m : Nat} {vm va : Value} {fs : List Value} (h : TAtW W S C p s m vm va fs) (fr : Int) (hf0 : 0 ≤ fr) (hf1 : fr ≤ 4096) :
 Calls Try.prog 47 #[.pointer (some ⟨p, 0, none⟩), .int .i64 fr] W fun e w' => CycPost W S C p m (cycM s fr) e w' := by
 have H := Aside0.mk h
 obtain ⟨A, c, rfl⟩ := own_sl h.A
 have hc10 : W.cell? ⟨p, 10, none⟩ = some (.slice A fs.length c) := h.B.cell 10 rfl
 have hst : AsR W S C p s m (.slice A fs.length c) fs (.int .i64 0) W := ⟨0, vm, rfl, Nat.zero_le _, h.sx, Step.refl _ _⟩
 have hdj := Aside0.mk h.cdj
 have hfl1 : fs.length ≤ s.aq.length := by have := h.Fl; omega
 have hfl2 : s.aq.length ≤ fs.length := by have := h.Fl; omega
 have hal := h.ok.al
 have HF := Aside0.mk h.ok.aok
 clear h
 go_enter Try.func47, Try.ntmps47
 go_wp2
 go_loopw [14] (AsR W S C p s m (.slice A fs.length c) fs) (fun v14 _ => fs.length - (intOf v14).toNat)
 case atStart => exact hst
 case round =>
  clear hst hc10
  obtain ⟨i, vm', rfl, hi, hT, hS⟩ := hrel
  have HT := Aside0.mk hT
  have HS := Aside0.mk hS
  clear hT hS
  by_cases hlt : i < fs.length
  · have hltz : (i : Int) < (fs.length : Int) := by omega
    obtain ⟨g, rfl⟩ := own_some HT.out.A (by omega)
    have hia : i < s.aq.length := by omega
    have hck := own_cells HT.out.A i fs[i] (by simp [hlt])
    rw [Nat.zero_add] at hck
    have hav := HT.out.F i s.aq[i] fs[i] (by rw [asksDo_aq]; simp [hia]) (by simp [hlt])
    have haok := HF.out s.aq[i] (List.getElem_mem _)
    generalize fs[i] = f at *
    generalize haq : s.aq[i] = a at *
    have HAQ := Aside0.mk haq
    have HOK := Aside0.mk haok
    clear haq haok
    cases a <;> simp only [AskV] at hav
    · subst hav
      go_wp2_with (fail)
      refine (start1_calls HT.out).mono ?_
      rintro e w2 ⟨rfl, vm2, hT2, hS2⟩
      have HR := Aside0.mk (AsR.more hdj.out hia HAQ.out hlt hT2 HS.out hS2)
      clear hT2 hS2 hck
      go_wp2
      exact ⟨HR.out, by simp [intOf]; omega⟩
    · subst hav
      go_wp2_with (fail)
      refine (stop1_calls HT.out).mono ?_
      rintro e w2 ⟨rfl, vm2, hT2, hS2⟩
      have HR := Aside0.mk (AsR.more hdj.out hia HAQ.out hlt hT2 HS.out hS2)
      clear hT2 hS2 hck
      go_wp2
      exact ⟨HR.out, by simp [intOf]; omega⟩
    · obtain ⟨b, rfl, hb, _⟩ := hav
      have HBX := Aside0.mk hb
      clear hb
      go_wp2_with (fail)
      refine (seek1_calls HT.out b _ HBX.out HOK.out).mono ?_
      rintro e w2 ⟨rfl, vm2, hT2, hS2⟩
      have HR := Aside0.mk (AsR.more hdj.out hia HAQ.out hlt hT2 HS.out hS2)
      clear hT2 hS2 hck
      go_wp2
      exact ⟨HR.out, by simp [intOf]; omega⟩
    · obtain ⟨b, b2, rfl, hb, hb2, _⟩ := hav
      have HBX := Aside0.mk hb
      have HBY := Aside0.mk hb2
      clear hb hb2
      go_wp2_with (fail)
      refine (loop1_calls HT.out b b2 _ _ HBX.out HBY.out HOK.out).mono ?_
      rintro e w2 ⟨rfl, vm2, hT2, hS2⟩
      have HR := Aside0.mk (AsR.more hdj.out hia HAQ.out hlt hT2 HS.out hS2)
      clear hT2 hS2 hck
      go_wp2
      exact ⟨HR.out, by simp [intOf]; omega⟩
    · obtain ⟨b, rfl, hb, _⟩ := hav
      have HBX := Aside0.mk hb
      clear hb
      go_wp2_with (fail)
      refine (wheel1_calls HT.out b _ HBX.out).mono ?_
      rintro e w2 ⟨rfl, vm2, hT2, hS2⟩
      have HR := Aside0.mk (AsR.more hdj.out hia HAQ.out hlt hT2 HS.out hS2)
      clear hT2 hS2 hck
      go_wp2
      exact ⟨HR.out, by simp [intOf]; omega⟩
  · obtain rfl : i = fs.length := by omega
    have hT2 := HT.out
    rw [List.take_of_length_le (by omega)] at hT2
    have HT2 := Aside0.mk hT2
    clear hT2 HT
    have hc10 : wr.cell? ⟨p, 10, none⟩ = some (.slice A fs.length c) := HT2.out.B.cell 10 rfl
    have hf10 := HT2.out.B.frozen 10
    have HT3 := Aside0.mk HT2.out.cleared
    have HS3 := Aside0.mk (HS.out.trans (Step.set wr ⟨p, 10, none⟩ (.slice none 0 0) (show S p from H.out.sp)) (fun _ => .inl))
    obtain ⟨s1, hs1⟩ : ∃ s1, clearM (asksDo s.aq s) = s1 := ⟨_, rfl⟩
    rw [hs1] at HT3
    have HE1 := Aside0.mk hs1
    clear hs1
    have hc2 : wr.cell? ⟨p, 2, none⟩ = some (.int .i64 s1.st) := by rw [← HE1.out]; exact HT2.out.B.cell 2 rfl
    go_upto_if 29 with (fail)
    obtain ⟨wx, hwx⟩ : ∃ wx, wr.setCell ⟨p, 10, none⟩ (.slice none 0 0) = wx := ⟨_, rfl⟩
    rw [hwx] at HT3 HS3
    rw [hwx]
    clear hwx hc2 hc10 hf10 HT2 HS
    go_cut [] from 29 to 59 (fun wc => ∃ vm', TAtW wc (Sx W S) C p (waitM s1) m vm' (.slice none 0 0) [] ∧ Step W wc S)
    case first =>
     by_cases hs : s1.st = 1
     · have ht : (s1.st == 1) = true := by rw [beq_iff_eq]; exact hs
       have hok := HT3.out.ok
       have HST := Aside0.mk hs
       clear hs
       go_wp2_with (fail)
       refine (unready_calls HT3.out).mono ?_
       rintro e w2 ⟨v, rfl, hrow, hb2⟩
       obtain ⟨A2, c2, rfl⟩ := own_sl hrow
       have HT4 := Aside0.mk (HT3.out.below hb2)
       have HS4 := Aside0.mk (HS3.out.trans (Step.of_below hb2 S) (fun _ => .inl))
       clear hrow hb2
       by_cases hu : unr s1.sl = []
       · have hl : (((unr s1.sl).length : Int) == 0) = true := by rw [hu]; rfl
         have HU := Aside0.mk hu
         clear hu
         go_wp2_with (fail)
         refine (roll_calls HT4.out).mono ?_
         rintro e w3 ⟨rfl, vm3, hT, hS5⟩
         have HT5 := Aside0.mk hT
         have HS5 := Aside0.mk hS5
         clear hT hS5
         go_wp2
         go_meet
         case rel =>
          refine ⟨vm3, ?_, HS4.out.trans HS5.out (fun _ => id)⟩
          have e : waitM s1 = rollM s1 := by unfold waitM; rw [if_pos HST.out, if_pos (.inl HU.out)]
          rw [e]
          exact HT5.out.sub HS4.out.kept.1 hdj.out
       · have hl : (((unr s1.sl).length : Int) == 0) = false := by
          rw [beq_eq_false_iff_ne]
          have := List.length_pos_iff.2 hu
          omega
         have HU := Aside0.mk hu
         clear hu
         have hc6 : w2.cell? ⟨p, 6, none⟩ = some (.bool s1.fr) := HT4.out.B.cell 6 rfl
         have hc5 : w2.cell? ⟨p, 5, none⟩ = some (.int .i64 s1.wd) := HT4.out.B.cell 5 rfl
         have hc4 : w2.cell? ⟨p, 4, none⟩ = some (.int .i64 s1.wt) := HT4.out.B.cell 4 rfl
         have hf5 := HT4.out.B.frozen 5
         have hwait : ¬ (s1.fr = false ∧ s1.wt ≤ s1.wd) → ∀ n, ∃ vm', TAtW ((w2.drewN n).setCell ⟨p, 5, none⟩ (.int .i64 (wrap64 (s1.wd + 1)))) (Sx W S) C p (waitM s1) m vm' (.slice none 0 0) [] ∧ Step W ((w2.drewN n).setCell ⟨p, 5, none⟩ (.int .i64 (wrap64 (s1.wd + 1)))) S := by
          intro hno n
          have e : waitM s1 = { s1 with wd := wrap64 (s1.wd + 1) } := by unfold waitM; rw [if_pos HST.out, if_neg (by intro hh; exact hh.elim HU.out hno)]
          rw [e]
          have hTn : TAtW (w2.drewN n) (Sx W S) C p s1 m vm' (.slice none 0 0) [] := HT4.out.below (pw_below_drewN (Below.refl _ _) n)
          exact ⟨vm', hTn.set 5 _ rfl rfl rfl rfl (wd_ok hok _), HS4.out.trans ((Step.of_below (pw_below_drewN (Below.refl _ _) n) S).trans (Step.set _ ⟨p, 5, none⟩ _ (show S p from H.out.sp)) (fun _ => .inl)) (fun _ => .inl)⟩
         have HW := Aside0.mk hwait
         clear hwait
         cases hfr : s1.fr with
         | true =>
          rw [hfr] at hc6
          have HFR := Aside0.mk hfr
          clear hfr
          go_wp2_with (fail)
          go_quiet (fail)
          go_wp2
          go_meet
          case rel => exact HW.out (by rw [HFR.out]; simp) _
         | false =>
          rw [hfr] at hc6
          have HFR := Aside0.mk hfr
          clear hfr
          by_cases hge : s1.wt ≤ s1.wd
          · have hd : decide (s1.wt ≤ s1.wd) = true := decide_eq_true hge
            have hd2 : decide (s1.wd ≥ s1.wt) = true := hd
            have HGE := Aside0.mk hge
            clear hge
            go_wp2_with (fail)
            go_quiet (fail)
            go_wp2_with (fail)
            refine (roll_calls (HT4.out.below (pw_below_drewN (Below.refl _ _) _))).mono ?_
            rintro e w3 ⟨rfl, vm3, hT, hS5⟩
            have HT5 := Aside0.mk hT
            have HS5 := Aside0.mk hS5
            clear hT hS5
            go_wp2
            go_meet
            case rel =>
             refine ⟨vm3, ?_, (HS4.out.trans (Step.of_below (pw_below_drewN (Below.refl _ _) _) S) (fun _ => .inl)).trans HS5.out (fun _ => id)⟩
             have e : waitM s1 = rollM s1 := by unfold waitM; rw [if_pos HST.out, if_pos (.inr ⟨HFR.out, HGE.out⟩)]
             rw [e]
             exact HT5.out.sub HS4.out.kept.1 hdj.out
          · have hd : decide (s1.wt ≤ s1.wd) = false := decide_eq_false hge
            have hd2 : decide (s1.wd ≥ s1.wt) = false := hd
            have HGE := Aside0.mk hge
            clear hge
            go_wp2_with (fail)
            go_quiet (fail)
            go_wp2
            go_meet
            case rel => exact HW.out (by intro hh; have h1 := HGE.out; have h2 := hh.2; omega) _
     · have ht : (s1.st == 1) = false := by rw [beq_eq_false_iff_ne]; exact hs
       have HST := Aside0.mk hs
       clear hs
       go_wp2
       go_meet
       case rel =>
        have e : waitM s1 = s1 := by unfold waitM; rw [if_neg HST.out]
        rw [e]
        exact ⟨vm', HT3.out, HS3.out⟩
    case rest =>
     obtain ⟨vm2, hT6, hS6⟩ := hcut
     have HE2 := Aside0.mk (show cycM s fr = outM (waitM s1) fr by unfold cycM; rw [HE1.out])
     have hs20 := hT6.ok.s0
     have hs21 := hT6.ok.s1
     have hpl := H.out.B.lt
     obtain ⟨s2, hs2⟩ : ∃ s2, waitM s1 = s2 := ⟨_, rfl⟩
     rw [hs2] at hT6 HE2 hs20 hs21
     have HT6 := Aside0.mk hT6
     have HS6 := Aside0.mk hS6
     clear hT6 hS6 hs2 HT3 HS3
     obtain ⟨sv, hsv⟩ : ∃ sv, s2.st = sv := ⟨_, rfl⟩
     have hc2 : wc.cell? ⟨p, 2, none⟩ = some (.int .i64 sv) := by rw [← hsv]; exact HT6.out.B.cell 2 rfl
     rw [hsv] at hs20 hs21
     have hsw : ∀ w : World, w.heap.size = wc.heap.size → True := fun _ _ => trivial
     clear hsw
     have hcase : sv = 0 ∨ sv = 1 ∨ sv = 2 := by omega
     clear hs20 hs21
     rcases hcase with rfl | rfl | rfl
     · have ho : outM s2 fr = some (stillL s2 fr, { s2 with ps := s2.ps, cy := wrap64 (s2.cy + 1) }) := by unfold outM; rw [if_neg (by rw [hsv]; decide)]
       have HO := Aside0.mk (HE2.out.trans ho)
       have HSV := Aside0.mk hsv
       have HA0 := Aside0.mk (show 0 ≤ s2.ps from HT6.out.ok.p0)
       have HA1 := Aside0.mk (show s2.ps ≤ 1000000000 from HT6.out.ok.p1)
       clear ho hsv
       have HBR := Aside0.mk (Below.refl wc.heap.size wc)
       have hpc : p < wc.heap.size := HT6.out.B.lt
       go_wp2_with (fail)
       refine wp_region_any (by kernel_rfl) ?_
       try (change wpAny _ _ _ _ _ _ _ (World.drew _))
       refine wpAny_take (i := 1) (v := ?_) rfl (by kernel_rfl) (by kernel_rfl) (by kernel_rfl) (fun _ _ _ h => h) (Or.inl ⟨by rfl, ?_⟩) ?_
       rotate_left
       · intro w
         first | (go_simp; done) | (go_simp; with_reducible rfl)
       refine wpAny_take (i := 2) (v := ?_) rfl (by kernel_rfl) (by kernel_rfl) (by kernel_rfl) (fun _ _ _ h => h) (Or.inl ⟨by rfl, ?_⟩) ?_
       rotate_left
       · intro w
         first | (go_simp; done) | (go_simp; with_reducible rfl)
       refine wpAny_take (i := 3) (v := ?_) rfl (by kernel_rfl) (by kernel_rfl) (by kernel_rfl) (fun _ _ _ h => h) (Or.inl ⟨by rfl, ?_⟩) ?_
       rotate_left
       · intro w
         first | (go_simp; done) | (go_simp; with_reducible rfl)
       refine wpAny_take (i := 7) (v := ?_) rfl (by kernel_rfl) (by kernel_rfl) (by kernel_rfl) (fun _ _ _ h => h) (Or.inl ⟨by rfl, ?_⟩) ?_
       rotate_left
       · intro w
         first | (go_simp; done) | (go_simp; with_reducible rfl)
       refine wpAny_take (i := 8) (v := ?_) rfl (by kernel_rfl) (by kernel_rfl) (by kernel_rfl) (fun _ _ _ h => h) (Or.inl ⟨by rfl, ?_⟩) ?_
       rotate_left
       · intro w
         first | (go_simp; done) | (go_simp; with_reducible rfl)
       refine wpAny_ready (rs := [0, 4]) (by kernel_rfl) (by simp) ?_
       refine AllReady.cons rfl (fun K hK => ?_) (AllReady.cons rfl (fun K hK => ?_) AllReady.nil)
       · go_simp
         go_wp2_with (go_at_call 68; refine (states_calls _).mono ?_; rintro e w4 ⟨rfl, rfl⟩)
         refine wpAny_ready (rs := [4]) (by kernel_rfl) (by simp) ?_
         refine AllReady.cons rfl (fun K hK => ?_) AllReady.nil
         go_simp
         refine hK _ _ ?_
         clear hK K
         refine wpAny_ready (rs := [5]) (by kernel_rfl) (by simp) ?_
         refine AllReady.cons rfl (fun K hK => ?_) AllReady.nil
         go_simp
         refine hK _ _ ?_
         clear hK K
         refine wpAny_ready (rs := [6]) (by kernel_rfl) (by simp) ?_
         refine AllReady.cons rfl (fun K hK => ?_) AllReady.nil
         go_simp
         refine hK _ _ ?_
         clear hK K
         refine wpAny_ready (rs := [9]) (by kernel_rfl) (by simp) ?_
         refine AllReady.cons rfl (fun K hK => ?_) AllReady.nil
         go_simp
         go_wp2_with (fail)
         refine (still_calls (HT6.out.below (by repeat (first | (with_reducible first | exact HBR.out | apply below_alloc | apply pw_below_drewN | apply below_drew1) | exact HBR.out))) fr).mono ?_
         rintro e w5 ⟨v5, rfl, hrow5, hb5⟩
         have HR5 := Aside0.mk hrow5
         have HB5 := Aside0.mk hb5
         clear hrow5 hb5
         refine hK _ _ ?_
         clear hK K
         refine wpAny_take (i := 10) (v := ?_) rfl (by kernel_rfl) (by kernel_rfl) (by kernel_rfl) (fun _ _ _ h => h) (Or.inl ⟨by rfl, ?_⟩) ?_
         rotate_left
         · intro w
           first | (go_simp; done) | (go_simp; with_reducible rfl)
         refine wpAny_take (i := 11) (v := ?_) rfl (by kernel_rfl) (by kernel_rfl) (by kernel_rfl) (fun _ _ _ h => h) (Or.inl ⟨by rfl, ?_⟩) ?_
         rotate_left
         · intro w
           first | (go_simp; done) | (go_simp; with_reducible rfl)
         refine wpAny_take (i := 12) (v := ?_) rfl (by kernel_rfl) (by kernel_rfl) (by kernel_rfl) (fun _ _ _ h => h) (Or.inl ⟨by rfl, ?_⟩) ?_
         rotate_left
         · intro w
           first | (go_simp; done) | (go_simp; with_reducible rfl)
         refine wpAny_take (i := 13) (v := ?_) rfl (by kernel_rfl) (by kernel_rfl) (by kernel_rfl) (fun _ _ _ h => h) (Or.inl ⟨by rfl, ?_⟩) ?_
         rotate_left
         · intro w
           first | (go_simp; done) | (go_simp; with_reducible rfl)
         refine wpAny_take (i := 14) (v := ?_) rfl (by kernel_rfl) (by kernel_rfl) (by kernel_rfl) (fun _ _ _ h => h) (Or.inl ⟨by rfl, ?_⟩) ?_
         rotate_left
         · intro w
           first | (go_simp; done) | (go_simp; with_reducible rfl)
         refine wpAny_done (by kernel_rfl) ?_ _
         have hb6 : Below wc.heap.size wc w5 := (show Below wc.heap.size wc _ from (by repeat (first | (with_reducible first | exact HBR.out | apply below_alloc | apply pw_below_drewN | apply below_drew1) | exact HBR.out))).trans (HB5.out.mono (by simp))
         have HB6 := Aside0.mk hb6
         have hT7 := HT6.out.below hb6
         have hc3 : w5.cell? ⟨p, 3, none⟩ = some (.int .i64 s2.ps) := hT7.B.cell 3 rfl
         have hf3 := hT7.B.frozen 3
         have hc9 : w5.cell? ⟨p, 9, none⟩ = some (.int .i64 s2.cy) := hT7.B.cell 9 rfl
         have hf9 := hT7.B.frozen 9
         clear hb6 hT7 hc2 hpc
         go_wp2
         go_ret
         rw [HO.out]
         refine cyc_close HT6.out HS6.out H.out.sp (row_base HR5.out ?_) HB6.out HA0.out HA1.out H.out.B.lt
         have := HS6.out.kept.1
         simp
         omega
       · go_simp
         refine hK _ _ ?_
         clear hK K
         refine wpAny_ready (rs := [0]) (by kernel_rfl) (by simp) ?_
         refine AllReady.cons rfl (fun K hK => ?_) AllReady.nil
         go_simp
         go_wp2_with (go_at_call 68; refine (states_calls _).mono ?_; rintro e w4 ⟨rfl, rfl⟩)
         refine wpAny_ready (rs := [5]) (by kernel_rfl) (by simp) ?_
         refine AllReady.cons rfl (fun K hK => ?_) AllReady.nil
         go_simp
         refine hK _ _ ?_
         clear hK K
         refine wpAny_ready (rs := [6]) (by kernel_rfl) (by simp) ?_
         refine AllReady.cons rfl (fun K hK => ?_) AllReady.nil
         go_simp
         refine hK _ _ ?_
         clear hK K
         refine wpAny_ready (rs := [9]) (by kernel_rfl) (by simp) ?_
         refine AllReady.cons rfl (fun K hK => ?_) AllReady.nil
         go_simp
         go_wp2_with (fail)
         refine (still_calls (HT6.out.below (by repeat (first | (with_reducible first | exact HBR.out | apply below_alloc | apply pw_below_drewN | apply below_drew1) | exact HBR.out))) fr).mono ?_
         rintro e w5 ⟨v5, rfl, hrow5, hb5⟩
         have HR5 := Aside0.mk hrow5
         have HB5 := Aside0.mk hb5
         clear hrow5 hb5
         refine hK _ _ ?_
         clear hK K
         refine wpAny_take (i := 10) (v := ?_) rfl (by kernel_rfl) (by kernel_rfl) (by kernel_rfl) (fun _ _ _ h => h) (Or.inl ⟨by rfl, ?_⟩) ?_
         rotate_left
         · intro w
           first | (go_simp; done) | (go_simp; with_reducible rfl)
         refine wpAny_take (i := 11) (v := ?_) rfl (by kernel_rfl) (by kernel_rfl) (by kernel_rfl) (fun _ _ _ h => h) (Or.inl ⟨by rfl, ?_⟩) ?_
         rotate_left
         · intro w
           first | (go_simp; done) | (go_simp; with_reducible rfl)
         refine wpAny_take (i := 12) (v := ?_) rfl (by kernel_rfl) (by kernel_rfl) (by kernel_rfl) (fun _ _ _ h => h) (Or.inl ⟨by rfl, ?_⟩) ?_
         rotate_left
         · intro w
           first | (go_simp; done) | (go_simp; with_reducible rfl)
         refine wpAny_take (i := 13) (v := ?_) rfl (by kernel_rfl) (by kernel_rfl) (by kernel_rfl) (fun _ _ _ h => h) (Or.inl ⟨by rfl, ?_⟩) ?_
         rotate_left
         · intro w
           first | (go_simp; done) | (go_simp; with_reducible rfl)
         refine wpAny_take (i := 14) (v := ?_) rfl (by kernel_rfl) (by kernel_rfl) (by kernel_rfl) (fun _ _ _ h => h) (Or.inl ⟨by rfl, ?_⟩) ?_
         rotate_left
         · intro w
           first | (go_simp; done) | (go_simp; with_reducible rfl)
         refine wpAny_done (by kernel_rfl) ?_ _
         have hb6 : Below wc.heap.size wc w5 := (show Below wc.heap.size wc _ from (by repeat (first | (with_reducible first | exact HBR.out | apply below_alloc | apply pw_below_drewN | apply below_drew1) | exact HBR.out))).trans (HB5.out.mono (by simp))
         have HB6 := Aside0.mk hb6
         have hT7 := HT6.out.below hb6
         have hc3 : w5.cell? ⟨p, 3, none⟩ = some (.int .i64 s2.ps) := hT7.B.cell 3 rfl
         have hf3 := hT7.B.frozen 3
         have hc9 : w5.cell? ⟨p, 9, none⟩ = some (.int .i64 s2.cy) := hT7.B.cell 9 rfl
         have hf9 := hT7.B.frozen 9
         clear hb6 hT7 hc2 hpc
         go_wp2
         go_ret
         rw [HO.out]
         refine cyc_close HT6.out HS6.out H.out.sp (row_base HR5.out ?_) HB6.out HA0.out HA1.out H.out.B.lt
         have := HS6.out.kept.1
         simp
         omega
     · have ho : outM s2 fr = some (stillL s2 fr, { s2 with ps := s2.ps, cy := wrap64 (s2.cy + 1) }) := by unfold outM; rw [if_neg (by rw [hsv]; decide)]
       have HO := Aside0.mk (HE2.out.trans ho)
       have HSV := Aside0.mk hsv
       have HA0 := Aside0.mk (show 0 ≤ s2.ps from HT6.out.ok.p0)
       have HA1 := Aside0.mk (show s2.ps ≤ 1000000000 from HT6.out.ok.p1)
       clear ho hsv
       have HBR := Aside0.mk (Below.refl wc.heap.size wc)
       have hpc : p < wc.heap.size := HT6.out.B.lt
       go_wp2_with (fail)
       refine wp_region_any (by kernel_rfl) ?_
       try (change wpAny _ _ _ _ _ _ _ (World.drew _))
       refine wpAny_take (i := 1) (v := ?_) rfl (by kernel_rfl) (by kernel_rfl) (by kernel_rfl) (fun _ _ _ h => h) (Or.inl ⟨by rfl, ?_⟩) ?_
       rotate_left
       · intro w
         first | (go_simp; done) | (go_simp; with_reducible rfl)
       refine wpAny_take (i := 2) (v := ?_) rfl (by kernel_rfl) (by kernel_rfl) (by kernel_rfl) (fun _ _ _ h => h) (Or.inl ⟨by rfl, ?_⟩) ?_
       rotate_left
       · intro w
         first | (go_simp; done) | (go_simp; with_reducible rfl)
       refine wpAny_take (i := 3) (v := ?_) rfl (by kernel_rfl) (by kernel_rfl) (by kernel_rfl) (fun _ _ _ h => h) (Or.inl ⟨by rfl, ?_⟩) ?_
       rotate_left
       · intro w
         first | (go_simp; done) | (go_simp; with_reducible rfl)
       refine wpAny_take (i := 7) (v := ?_) rfl (by kernel_rfl) (by kernel_rfl) (by kernel_rfl) (fun _ _ _ h => h) (Or.inl ⟨by rfl, ?_⟩) ?_
       rotate_left
       · intro w
         first | (go_simp; done) | (go_simp; with_reducible rfl)
       refine wpAny_take (i := 8) (v := ?_) rfl (by kernel_rfl) (by kernel_rfl) (by kernel_rfl) (fun _ _ _ h => h) (Or.inl ⟨by rfl, ?_⟩) ?_
       rotate_left
       · intro w
         first | (go_simp; done) | (go_simp; with_reducible rfl)
       refine wpAny_ready (rs := [0, 4]) (by kernel_rfl) (by simp) ?_
       refine AllReady.cons rfl (fun K hK => ?_) (AllReady.cons rfl (fun K hK => ?_) AllReady.nil)
       · go_simp
         go_wp2_with (go_at_call 68; refine (states_calls _).mono ?_; rintro e w4 ⟨rfl, rfl⟩)
         refine wpAny_ready (rs := [4]) (by kernel_rfl) (by simp) ?_
         refine AllReady.cons rfl (fun K hK => ?_) AllReady.nil
         go_simp
         refine hK _ _ ?_
         clear hK K
         refine wpAny_ready (rs := [5]) (by kernel_rfl) (by simp) ?_
         refine AllReady.cons rfl (fun K hK => ?_) AllReady.nil
         go_simp
         refine hK _ _ ?_
         clear hK K
         refine wpAny_ready (rs := [6]) (by kernel_rfl) (by simp) ?_
         refine AllReady.cons rfl (fun K hK => ?_) AllReady.nil
         go_simp
         refine hK _ _ ?_
         clear hK K
         refine wpAny_ready (rs := [9]) (by kernel_rfl) (by simp) ?_
         refine AllReady.cons rfl (fun K hK => ?_) AllReady.nil
         go_simp
         go_wp2_with (fail)
         refine (still_calls (HT6.out.below (by repeat (first | (with_reducible first | exact HBR.out | apply below_alloc | apply pw_below_drewN | apply below_drew1) | exact HBR.out))) fr).mono ?_
         rintro e w5 ⟨v5, rfl, hrow5, hb5⟩
         have HR5 := Aside0.mk hrow5
         have HB5 := Aside0.mk hb5
         clear hrow5 hb5
         refine hK _ _ ?_
         clear hK K
         refine wpAny_take (i := 10) (v := ?_) rfl (by kernel_rfl) (by kernel_rfl) (by kernel_rfl) (fun _ _ _ h => h) (Or.inl ⟨by rfl, ?_⟩) ?_
         rotate_left
         · intro w
           first | (go_simp; done) | (go_simp; with_reducible rfl)
         refine wpAny_take (i := 11) (v := ?_) rfl (by kernel_rfl) (by kernel_rfl) (by kernel_rfl) (fun _ _ _ h => h) (Or.inl ⟨by rfl, ?_⟩) ?_
         rotate_left
         · intro w
           first | (go_simp; done) | (go_simp; with_reducible rfl)
         refine wpAny_take (i := 12) (v := ?_) rfl (by kernel_rfl) (by kernel_rfl) (by kernel_rfl) (fun _ _ _ h => h) (Or.inl ⟨by rfl, ?_⟩) ?_
         rotate_left
         · intro w
           first | (go_simp; done) | (go_simp; with_reducible rfl)
         refine wpAny_take (i := 13) (v := ?_) rfl (by kernel_rfl) (by kernel_rfl) (by kernel_rfl) (fun _ _ _ h => h) (Or.inl ⟨by rfl, ?_⟩) ?_
         rotate_left
         · intro w
           first | (go_simp; done) | (go_simp; with_reducible rfl)
         refine wpAny_take (i := 14) (v := ?_) rfl (by kernel_rfl) (by kernel_rfl) (by kernel_rfl) (fun _ _ _ h => h) (Or.inl ⟨by rfl, ?_⟩) ?_
         rotate_left
         · intro w
           first | (go_simp; done) | (go_simp; with_reducible rfl)
         refine wpAny_done (by kernel_rfl) ?_ _
         have hb6 : Below wc.heap.size wc w5 := (show Below wc.heap.size wc _ from (by repeat (first | (with_reducible first | exact HBR.out | apply below_alloc | apply pw_below_drewN | apply below_drew1) | exact HBR.out))).trans (HB5.out.mono (by simp))
         have HB6 := Aside0.mk hb6
         have hT7 := HT6.out.below hb6
         have hc3 : w5.cell? ⟨p, 3, none⟩ = some (.int .i64 s2.ps) := hT7.B.cell 3 rfl
         have hf3 := hT7.B.frozen 3
         have hc9 : w5.cell? ⟨p, 9, none⟩ = some (.int .i64 s2.cy) := hT7.B.cell 9 rfl
         have hf9 := hT7.B.frozen 9
         clear hb6 hT7 hc2 hpc
         go_wp2
         go_ret
         rw [HO.out]
         refine cyc_close HT6.out HS6.out H.out.sp (row_base HR5.out ?_) HB6.out HA0.out HA1.out H.out.B.lt
         have := HS6.out.kept.1
         simp
         omega
       · go_simp
         refine hK _ _ ?_
         clear hK K
         refine wpAny_ready (rs := [0]) (by kernel_rfl) (by simp) ?_
         refine AllReady.cons rfl (fun K hK => ?_) AllReady.nil
         go_simp
         go_wp2_with (go_at_call 68; refine (states_calls _).mono ?_; rintro e w4 ⟨rfl, rfl⟩)
         refine wpAny_ready (rs := [5]) (by kernel_rfl) (by simp) ?_
         refine AllReady.cons rfl (fun K hK => ?_) AllReady.nil
         go_simp
         refine hK _ _ ?_
         clear hK K
         refine wpAny_ready (rs := [6]) (by kernel_rfl) (by simp) ?_
         refine AllReady.cons rfl (fun K hK => ?_) AllReady.nil
         go_simp
         refine hK _ _ ?_
         clear hK K
         refine wpAny_ready (rs := [9]) (by kernel_rfl) (by simp) ?_
         refine AllReady.cons rfl (fun K hK => ?_) AllReady.nil
         go_simp
         go_wp2_with (fail)
         refine (still_calls (HT6.out.below (by repeat (first | (with_reducible first | exact HBR.out | apply below_alloc | apply pw_below_drewN | apply below_drew1) | exact HBR.out))) fr).mono ?_
         rintro e w5 ⟨v5, rfl, hrow5, hb5⟩
         have HR5 := Aside0.mk hrow5
         have HB5 := Aside0.mk hb5
         clear hrow5 hb5
         refine hK _ _ ?_
         clear hK K
         refine wpAny_take (i := 10) (v := ?_) rfl (by kernel_rfl) (by kernel_rfl) (by kernel_rfl) (fun _ _ _ h => h) (Or.inl ⟨by rfl, ?_⟩) ?_
         rotate_left
         · intro w
           first | (go_simp; done) | (go_simp; with_reducible rfl)
         refine wpAny_take (i := 11) (v := ?_) rfl (by kernel_rfl) (by kernel_rfl) (by kernel_rfl) (fun _ _ _ h => h) (Or.inl ⟨by rfl, ?_⟩) ?_
         rotate_left
         · intro w
           first | (go_simp; done) | (go_simp; with_reducible rfl)
         refine wpAny_take (i := 12) (v := ?_) rfl (by kernel_rfl) (by kernel_rfl) (by kernel_rfl) (fun _ _ _ h => h) (Or.inl ⟨by rfl, ?_⟩) ?_
         rotate_left
         · intro w
           first | (go_simp; done) | (go_simp; with_reducible rfl)
         refine wpAny_take (i := 13) (v := ?_) rfl (by kernel_rfl) (by kernel_rfl) (by kernel_rfl) (fun _ _ _ h => h) (Or.inl ⟨by rfl, ?_⟩) ?_
         rotate_left
         · intro w
           first | (go_simp; done) | (go_simp; with_reducible rfl)
         refine wpAny_take (i := 14) (v := ?_) rfl (by kernel_rfl) (by kernel_rfl) (by kernel_rfl) (fun _ _ _ h => h) (Or.inl ⟨by rfl, ?_⟩) ?_
         rotate_left
         · intro w
           first | (go_simp; done) | (go_simp; with_reducible rfl)
         refine wpAny_done (by kernel_rfl) ?_ _
         have hb6 : Below wc.heap.size wc w5 := (show Below wc.heap.size wc _ from (by repeat (first | (with_reducible first | exact HBR.out | apply below_alloc | apply pw_below_drewN | apply below_drew1) | exact HBR.out))).trans (HB5.out.mono (by simp))
         have HB6 := Aside0.mk hb6
         have hT7 := HT6.out.below hb6
         have hc3 : w5.cell? ⟨p, 3, none⟩ = some (.int .i64 s2.ps) := hT7.B.cell 3 rfl
         have hf3 := hT7.B.frozen 3
         have hc9 : w5.cell? ⟨p, 9, none⟩ = some (.int .i64 s2.cy) := hT7.B.cell 9 rfl
         have hf9 := hT7.B.frozen 9
         clear hb6 hT7 hc2 hpc
         go_wp2
         go_ret
         rw [HO.out]
         refine cyc_close HT6.out HS6.out H.out.sp (row_base HR5.out ?_) HB6.out HA0.out HA1.out H.out.B.lt
         have := HS6.out.kept.1
         simp
         omega
     · by_cases hro : rollOk s2 fr
       · have HRO := Aside0.mk hro
         have ho : outM s2 fr = some (rollL s2 fr, { s2 with ps := rollE s2 fr, cy := wrap64 (s2.cy + 1) }) := by unfold outM; rw [if_pos hsv, if_pos hro]
         have HO := Aside0.mk (HE2.out.trans ho)
         have HSV := Aside0.mk hsv
         have HA0 := Aside0.mk (show 0 ≤ rollE s2 fr from (endP_nonneg _ _ HT6.out.ok.b0 _ _ _ HT6.out.ok.p0))
         have HA1 := Aside0.mk (show rollE s2 fr ≤ 1000000000 from hro.2)
         clear hro
         clear ho hsv
         have HBR := Aside0.mk (Below.refl wc.heap.size wc)
         have hpc : p < wc.heap.size := HT6.out.B.lt
         go_wp2_with (fail)
         refine wp_region_any (by kernel_rfl) ?_
         try (change wpAny _ _ _ _ _ _ _ (World.drew _))
         refine wpAny_take (i := 1) (v := ?_) rfl (by kernel_rfl) (by kernel_rfl) (by kernel_rfl) (fun _ _ _ h => h) (Or.inl ⟨by rfl, ?_⟩) ?_
         rotate_left
         · intro w
           first | (go_simp; done) | (go_simp; with_reducible rfl)
         refine wpAny_take (i := 2) (v := ?_) rfl (by kernel_rfl) (by kernel_rfl) (by kernel_rfl) (fun _ _ _ h => h) (Or.inl ⟨by rfl, ?_⟩) ?_
         rotate_left
         · intro w
           first | (go_simp; done) | (go_simp; with_reducible rfl)
         refine wpAny_take (i := 3) (v := ?_) rfl (by kernel_rfl) (by kernel_rfl) (by kernel_rfl) (fun _ _ _ h => h) (Or.inl ⟨by rfl, ?_⟩) ?_
         rotate_left
         · intro w
           first | (go_simp; done) | (go_simp; with_reducible rfl)
         refine wpAny_take (i := 7) (v := ?_) rfl (by kernel_rfl) (by kernel_rfl) (by kernel_rfl) (fun _ _ _ h => h) (Or.inl ⟨by rfl, ?_⟩) ?_
         rotate_left
         · intro w
           first | (go_simp; done) | (go_simp; with_reducible rfl)
         refine wpAny_take (i := 8) (v := ?_) rfl (by kernel_rfl) (by kernel_rfl) (by kernel_rfl) (fun _ _ _ h => h) (Or.inl ⟨by rfl, ?_⟩) ?_
         rotate_left
         · intro w
           first | (go_simp; done) | (go_simp; with_reducible rfl)
         refine wpAny_ready (rs := [0, 4]) (by kernel_rfl) (by simp) ?_
         refine AllReady.cons rfl (fun K hK => ?_) (AllReady.cons rfl (fun K hK => ?_) AllReady.nil)
         · go_simp
           go_wp2_with (go_at_call 68; refine (states_calls _).mono ?_; rintro e w4 ⟨rfl, rfl⟩)
           refine wpAny_ready (rs := [4]) (by kernel_rfl) (by simp) ?_
           refine AllReady.cons rfl (fun K hK => ?_) AllReady.nil
           go_simp
           refine hK _ _ ?_
           clear hK K
           refine wpAny_ready (rs := [5]) (by kernel_rfl) (by simp) ?_
           refine AllReady.cons rfl (fun K hK => ?_) AllReady.nil
           go_simp
           refine hK _ _ ?_
           clear hK K
           refine wpAny_ready (rs := [6]) (by kernel_rfl) (by simp) ?_
           refine AllReady.cons rfl (fun K hK => ?_) AllReady.nil
           go_simp
           refine hK _ _ ?_
           clear hK K
           refine wpAny_ready (rs := [9]) (by kernel_rfl) (by simp) ?_
           refine AllReady.cons rfl (fun K hK => ?_) AllReady.nil
           go_simp
           go_wp2_with (fail)
           refine (roll2_ok (HT6.out.below (by repeat (first | (with_reducible first | exact HBR.out | apply below_alloc | apply pw_below_drewN | apply below_drew1) | exact HBR.out))) fr hf0 hf1 HRO.out).mono ?_
           rintro e w5 ⟨v5, rfl, hrow5, hb5⟩
           have HR5 := Aside0.mk hrow5
           have HB5 := Aside0.mk hb5
           clear hrow5 hb5
           refine hK _ _ ?_
           clear hK K
           refine wpAny_take (i := 10) (v := ?_) rfl (by kernel_rfl) (by kernel_rfl) (by kernel_rfl) (fun _ _ _ h => h) (Or.inl ⟨by rfl, ?_⟩) ?_
           rotate_left
           · intro w
             first | (go_simp; done) | (go_simp; with_reducible rfl)
           refine wpAny_take (i := 11) (v := ?_) rfl (by kernel_rfl) (by kernel_rfl) (by kernel_rfl) (fun _ _ _ h => h) (Or.inl ⟨by rfl, ?_⟩) ?_
           rotate_left
           · intro w
             first | (go_simp; done) | (go_simp; with_reducible rfl)
           refine wpAny_take (i := 12) (v := ?_) rfl (by kernel_rfl) (by kernel_rfl) (by kernel_rfl) (fun _ _ _ h => h) (Or.inl ⟨by rfl, ?_⟩) ?_
           rotate_left
           · intro w
             first | (go_simp; done) | (go_simp; with_reducible rfl)
           refine wpAny_take (i := 13) (v := ?_) rfl (by kernel_rfl) (by kernel_rfl) (by kernel_rfl) (fun _ _ _ h => h) (Or.inl ⟨by rfl, ?_⟩) ?_
           rotate_left
           · intro w
             first | (go_simp; done) | (go_simp; with_reducible rfl)
           refine wpAny_take (i := 14) (v := ?_) rfl (by kernel_rfl) (by kernel_rfl) (by kernel_rfl) (fun _ _ _ h => h) (Or.inl ⟨by rfl, ?_⟩) ?_
           rotate_left
           · intro w
             first | (go_simp; done) | (go_simp; with_reducible rfl)
           refine wpAny_done (by kernel_rfl) ?_ _
           have hb6 : Below wc.heap.size wc w5 := (show Below wc.heap.size wc _ from (by repeat (first | (with_reducible first | exact HBR.out | apply below_alloc | apply pw_below_drewN | apply below_drew1) | exact HBR.out))).trans (HB5.out.mono (by simp))
           have HB6 := Aside0.mk hb6
           have hT7 := HT6.out.below hb6
           have hc3 : w5.cell? ⟨p, 3, none⟩ = some (.int .i64 s2.ps) := hT7.B.cell 3 rfl
           have hf3 := hT7.B.frozen 3
           have hc9 : w5.cell? ⟨p, 9, none⟩ = some (.int .i64 s2.cy) := hT7.B.cell 9 rfl
           have hf9 := hT7.B.frozen 9
           clear hb6 hT7 hc2 hpc
           go_wp2
           go_ret
           rw [HO.out]
           refine cyc_close HT6.out HS6.out H.out.sp (row_base HR5.out ?_) HB6.out HA0.out HA1.out H.out.B.lt
           have := HS6.out.kept.1
           simp
           omega
         · go_simp
           refine hK _ _ ?_
           clear hK K
           refine wpAny_ready (rs := [0]) (by kernel_rfl) (by simp) ?_
           refine AllReady.cons rfl (fun K hK => ?_) AllReady.nil
           go_simp
           go_wp2_with (go_at_call 68; refine (states_calls _).mono ?_; rintro e w4 ⟨rfl, rfl⟩)
           refine wpAny_ready (rs := [5]) (by kernel_rfl) (by simp) ?_
           refine AllReady.cons rfl (fun K hK => ?_) AllReady.nil
           go_simp
           refine hK _ _ ?_
           clear hK K
           refine wpAny_ready (rs := [6]) (by kernel_rfl) (by simp) ?_
           refine AllReady.cons rfl (fun K hK => ?_) AllReady.nil
           go_simp
           refine hK _ _ ?_
           clear hK K
           refine wpAny_ready (rs := [9]) (by kernel_rfl) (by simp) ?_
           refine AllReady.cons rfl (fun K hK => ?_) AllReady.nil
           go_simp
           go_wp2_with (fail)
           refine (roll2_ok (HT6.out.below (by repeat (first | (with_reducible first | exact HBR.out | apply below_alloc | apply pw_below_drewN | apply below_drew1) | exact HBR.out))) fr hf0 hf1 HRO.out).mono ?_
           rintro e w5 ⟨v5, rfl, hrow5, hb5⟩
           have HR5 := Aside0.mk hrow5
           have HB5 := Aside0.mk hb5
           clear hrow5 hb5
           refine hK _ _ ?_
           clear hK K
           refine wpAny_take (i := 10) (v := ?_) rfl (by kernel_rfl) (by kernel_rfl) (by kernel_rfl) (fun _ _ _ h => h) (Or.inl ⟨by rfl, ?_⟩) ?_
           rotate_left
           · intro w
             first | (go_simp; done) | (go_simp; with_reducible rfl)
           refine wpAny_take (i := 11) (v := ?_) rfl (by kernel_rfl) (by kernel_rfl) (by kernel_rfl) (fun _ _ _ h => h) (Or.inl ⟨by rfl, ?_⟩) ?_
           rotate_left
           · intro w
             first | (go_simp; done) | (go_simp; with_reducible rfl)
           refine wpAny_take (i := 12) (v := ?_) rfl (by kernel_rfl) (by kernel_rfl) (by kernel_rfl) (fun _ _ _ h => h) (Or.inl ⟨by rfl, ?_⟩) ?_
           rotate_left
           · intro w
             first | (go_simp; done) | (go_simp; with_reducible rfl)
           refine wpAny_take (i := 13) (v := ?_) rfl (by kernel_rfl) (by kernel_rfl) (by kernel_rfl) (fun _ _ _ h => h) (Or.inl ⟨by rfl, ?_⟩) ?_
           rotate_left
           · intro w
             first | (go_simp; done) | (go_simp; with_reducible rfl)
           refine wpAny_take (i := 14) (v := ?_) rfl (by kernel_rfl) (by kernel_rfl) (by kernel_rfl) (fun _ _ _ h => h) (Or.inl ⟨by rfl, ?_⟩) ?_
           rotate_left
           · intro w
             first | (go_simp; done) | (go_simp; with_reducible rfl)
           refine wpAny_done (by kernel_rfl) ?_ _
           have hb6 : Below wc.heap.size wc w5 := (show Below wc.heap.size wc _ from (by repeat (first | (with_reducible first | exact HBR.out | apply below_alloc | apply pw_below_drewN | apply below_drew1) | exact HBR.out))).trans (HB5.out.mono (by simp))
           have HB6 := Aside0.mk hb6
           have hT7 := HT6.out.below hb6
           have hc3 : w5.cell? ⟨p, 3, none⟩ = some (.int .i64 s2.ps) := hT7.B.cell 3 rfl
           have hf3 := hT7.B.frozen 3
           have hc9 : w5.cell? ⟨p, 9, none⟩ = some (.int .i64 s2.cy) := hT7.B.cell 9 rfl
           have hf9 := hT7.B.frozen 9
           clear hb6 hT7 hc2 hpc
           go_wp2
           go_ret
           rw [HO.out]
           refine cyc_close HT6.out HS6.out H.out.sp (row_base HR5.out ?_) HB6.out HA0.out HA1.out H.out.B.lt
           have := HS6.out.kept.1
           simp
           omega
       · have HRO := Aside0.mk hro
         have ho : outM s2 fr = none := by unfold outM; rw [if_pos hsv, if_neg hro]
         have HO := Aside0.mk (HE2.out.trans ho)
         have HSV := Aside0.mk hsv
         clear hro
         clear ho hsv
         have HBR := Aside0.mk (Below.refl wc.heap.size wc)
         have hpc : p < wc.heap.size := HT6.out.B.lt
         go_wp2_with (fail)
         refine wp_region_any (by kernel_rfl) ?_
         try (change wpAny _ _ _ _ _ _ _ (World.drew _))
         refine wpAny_take (i := 1) (v := ?_) rfl (by kernel_rfl) (by kernel_rfl) (by kernel_rfl) (fun _ _ _ h => h) (Or.inl ⟨by rfl, ?_⟩) ?_
         rotate_left
         · intro w
           first | (go_simp; done) | (go_simp; with_reducible rfl)
         refine wpAny_take (i := 2) (v := ?_) rfl (by kernel_rfl) (by kernel_rfl) (by kernel_rfl) (fun _ _ _ h => h) (Or.inl ⟨by rfl, ?_⟩) ?_
         rotate_left
         · intro w
           first | (go_simp; done) | (go_simp; with_reducible rfl)
         refine wpAny_take (i := 3) (v := ?_) rfl (by kernel_rfl) (by kernel_rfl) (by kernel_rfl) (fun _ _ _ h => h) (Or.inl ⟨by rfl, ?_⟩) ?_
         rotate_left
         · intro w
           first | (go_simp; done) | (go_simp; with_reducible rfl)
         refine wpAny_take (i := 7) (v := ?_) rfl (by kernel_rfl) (by kernel_rfl) (by kernel_rfl) (fun _ _ _ h => h) (Or.inl ⟨by rfl, ?_⟩) ?_
         rotate_left
         · intro w
           first | (go_simp; done) | (go_simp; with_reducible rfl)
         refine wpAny_take (i := 8) (v := ?_) rfl (by kernel_rfl) (by kernel_rfl) (by kernel_rfl) (fun _ _ _ h => h) (Or.inl ⟨by rfl, ?_⟩) ?_
         rotate_left
         · intro w
           first | (go_simp; done) | (go_simp; with_reducible rfl)
         refine wpAny_ready (rs := [0, 4]) (by kernel_rfl) (by simp) ?_
         refine AllReady.cons rfl (fun K hK => ?_) (AllReady.cons rfl (fun K hK => ?_) AllReady.nil)
         · go_simp
           go_wp2_with (go_at_call 68; refine (states_calls _).mono ?_; rintro e w4 ⟨rfl, rfl⟩)
           refine wpAny_ready (rs := [4]) (by kernel_rfl) (by simp) ?_
           refine AllReady.cons rfl (fun K hK => ?_) AllReady.nil
           go_simp
           refine hK _ _ ?_
           clear hK K
           refine wpAny_ready (rs := [5]) (by kernel_rfl) (by simp) ?_
           refine AllReady.cons rfl (fun K hK => ?_) AllReady.nil
           go_simp
           refine hK _ _ ?_
           clear hK K
           refine wpAny_ready (rs := [6]) (by kernel_rfl) (by simp) ?_
           refine AllReady.cons rfl (fun K hK => ?_) AllReady.nil
           go_simp
           refine hK _ _ ?_
           clear hK K
           refine wpAny_ready (rs := [9]) (by kernel_rfl) (by simp) ?_
           refine AllReady.cons rfl (fun K hK => ?_) AllReady.nil
           go_simp
           go_wp2_with (fail)
           refine (roll2_no (HT6.out.below (by repeat (first | (with_reducible first | exact HBR.out | apply below_alloc | apply pw_below_drewN | apply below_drew1) | exact HBR.out))) fr hf0 hf1 HRO.out).mono ?_
           rintro e w5 ⟨rfl, hb5⟩
           have hb6 : Below wc.heap.size wc w5 := (show Below wc.heap.size wc _ from (by repeat (first | (with_reducible first | exact HBR.out | apply below_alloc | apply pw_below_drewN | apply below_drew1) | exact HBR.out))).trans (hb5.mono (by simp))
           refine ⟨rfl, ?_⟩
           rw [HO.out]
           exact ⟨rfl, HS6.out.trans (Step.of_below hb6 S) (fun _ => .inl)⟩
         · go_simp
           refine hK _ _ ?_
           clear hK K
           refine wpAny_ready (rs := [0]) (by kernel_rfl) (by simp) ?_
           refine AllReady.cons rfl (fun K hK => ?_) AllReady.nil
           go_simp
           go_wp2_with (go_at_call 68; refine (states_calls _).mono ?_; rintro e w4 ⟨rfl, rfl⟩)
           refine wpAny_ready (rs := [5]) (by kernel_rfl) (by simp) ?_
           refine AllReady.cons rfl (fun K hK => ?_) AllReady.nil
           go_simp
           refine hK _ _ ?_
           clear hK K
           refine wpAny_ready (rs := [6]) (by kernel_rfl) (by simp) ?_
           refine AllReady.cons rfl (fun K hK => ?_) AllReady.nil
           go_simp
           refine hK _ _ ?_
           clear hK K
           refine wpAny_ready (rs := [9]) (by kernel_rfl) (by simp) ?_
           refine AllReady.cons rfl (fun K hK => ?_) AllReady.nil
           go_simp
           go_wp2_with (fail)
           refine (roll2_no (HT6.out.below (by repeat (first | (with_reducible first | exact HBR.out | apply below_alloc | apply pw_below_drewN | apply below_drew1) | exact HBR.out))) fr hf0 hf1 HRO.out).mono ?_
           rintro e w5 ⟨rfl, hb5⟩
           have hb6 : Below wc.heap.size wc w5 := (show Below wc.heap.size wc _ from (by repeat (first | (with_reducible first | exact HBR.out | apply below_alloc | apply pw_below_drewN | apply below_drew1) | exact HBR.out))).trans (hb5.mono (by simp))
           refine ⟨rfl, ?_⟩
           rw [HO.out]
           exact ⟨rfl, HS6.out.trans (Step.of_below hb6 S) (fun _ => .inl)⟩
end Go.Proofs.Ytlffhagjpfcecaa.PA

namespace Go.Proofs.Ytlffhagjpfcecaa.PA
open Go.RowKit Go.Maps Go.Shelf Go.Sort Go.Proofs.YtlffhagjpfcecaaW.PrintWords Go.Proofs.YtlffhagjpfcecaaW.PrintLast Go.Proofs.YtlffhagjpfcecaaW.PrintMore
set_option linter.unusedVariables false
set_option linter.unusedSimpArgs false
theorem copy_lies {W w : World} {S C : Nat → Prop} {p q m' : Nat} {s : TS} {m : Nat} {vm va vm' va' : Value} {fs : List Value} (h : TAtW W S C p s m vm va fs) (hb : Below W.heap.size W w) (hB : Blk w q (tcells s m' vm' va') 73) (hq : W.heap.size ≤ q)
 (hM : MapAt w m' s.sl) (hm : W.heap.size ≤ m') (hV : w.ownsRow W.heap.size 3 1 vm' s.ms.length (ints s.ms)) (hA : w.ownsRow W.heap.size 75 1 va' fs.length fs) : TAtW w (fun k => W.heap.size ≤ k) C q s m' vm' va' fs where
 B := hB
 M := hM
 V := row_base hV (Nat.zero_le _)
 A := row_base hA (Nat.zero_le _)
 Fl := h.Fl
 F := (h.below hb).F
 sp := hq
 sm := hm
 sv := fun k e => (hV.lt k e).1
 sa := fun k e => (hA.lt k e).1
 dj := fun k hc hk => by have := h.cl k hc; omega
 cl := (h.below hb).cl
 ok := h.ok
theorem TAtW.one {W : World} {S C : Nat → Prop} {p : Nat} {s : TS} {m : Nat} {vm va : Value} {fs : List Value} (h : TAtW W S C p s m vm va fs) : ∀ u ∈ fs, u.oneCell' = true := by
 intro u hu
 obtain ⟨i, hi, rfl⟩ := List.getElem_of_mem hu
 have hf := h.Fl
 have hia : i < s.aq.length := by omega
 exact (h.F i s.aq[i] fs[i] (by simp [hia]) (by simp [hi])).one
theorem copy_end {W w : World} {S C : Nat → Prop} {p q m' : Nat} {s : TS} {m : Nat} {vm va vm' va' v5 v6 : Value} {fs : List Value} (h : TAtW W S C p s m vm va fs) (hb : Below W.heap.size W w) (hB : Blk w q (tcells s m' vm' va') 73) (hq : W.heap.size ≤ q)
 (hM : MapAt w m' s.sl) (hm : W.heap.size ≤ m') (hV : w.ownsRow W.heap.size 3 1 v5 s.ms.length (ints s.ms)) (hA : w.ownsRow W.heap.size 75 1 v6 fs.length fs) :
 TAtW ((w.setCell ⟨q, 8, none⟩ v5).setCell ⟨q, 10, none⟩ v6) (fun k => W.heap.size ≤ k) C q s m' v5 v6 fs ∧ Below W.heap.size W ((w.setCell ⟨q, 8, none⟩ v5).setCell ⟨q, 10, none⟩ v6) := by
 have hne : ∀ k, k ≠ q → ((w.setCell ⟨q, 8, none⟩ v5).setCell ⟨q, 10, none⟩ v6).heap[k]? = w.heap[k]? := fun k hk => (other_set hk).trans (other_set hk)
 have hbl : Below W.heap.size W ((w.setCell ⟨q, 8, none⟩ v5).setCell ⟨q, 10, none⟩ v6) := (hb.setCell (p := ⟨q, 8, none⟩) hq v5).setCell (p := ⟨q, 10, none⟩) hq v6
 have hmq : m' ≠ q := by
  rintro rfl
  obtain ⟨es, cl, hb', _⟩ := hM
  unfold Blk at hB
  rw [hB] at hb'
  cases hb'
 exact ⟨copy_lies h hbl ((hB.set 8 v5).set 10 v6) hq (hM.same (hne m' hmq)) hm (row_same hV (fun k e => hne k (row_ne (row_base hV (Nat.zero_le _)) hB (by decide) k e))) (row_same hA (fun k e => hne k (row_ne (row_base hA (Nat.zero_le _)) hB (by decide) k e))), hbl⟩
set_option maxRecDepth 100000 in
set_option maxHeartbeats 4000000 in
theorem copy_calls {W : World} {S C : Nat → Prop} {p : Nat} {s : TS} {m : Nat} {vm va : Value} {fs : List Value} (h : TAtW W S C p s m vm va fs) :
 Calls Try.prog 26 #[.pointer (some ⟨p, 0, none⟩)] W fun e w' => ∃ q m' vm' va', e = .returned (.pointer (some ⟨q, 0, none⟩)) ∧ TAtW w' (fun k => W.heap.size ≤ k) C q s m' vm' va' fs ∧ Below W.heap.size W w' := by
 obtain ⟨A, c, rfl⟩ := own_sl h.A
 obtain ⟨A2, c2, rfl⟩ := own_sl h.V
 have H := Aside0.mk h
 have hc0 : W.cell? ⟨p, 0, none⟩ = some (.int .i64 s.bg) := h.B.cell 0 rfl
 have hc1 : W.cell? ⟨p, 1, none⟩ = some (.int .i64 s.en) := h.B.cell 1 rfl
 have hc2 : W.cell? ⟨p, 2, none⟩ = some (.int .i64 s.st) := h.B.cell 2 rfl
 have hc3 : W.cell? ⟨p, 3, none⟩ = some (.int .i64 s.ps) := h.B.cell 3 rfl
 have hc4 : W.cell? ⟨p, 4, none⟩ = some (.int .i64 s.wt) := h.B.cell 4 rfl
 have hc5 : W.cell? ⟨p, 5, none⟩ = some (.int .i64 s.wd) := h.B.cell 5 rfl
 have hc6 : W.cell? ⟨p, 6, none⟩ = some (.bool s.fr) := h.B.cell 6 rfl
 have hc7 : W.cell? ⟨p, 7, none⟩ = some (.map (some m)) := h.B.cell 7 rfl
 have hc8 : W.cell? ⟨p, 8, none⟩ = some (.slice A2 s.ms.length c2) := h.B.cell 8 rfl
 have hc9 : W.cell? ⟨p, 9, none⟩ = some (.int .i64 s.cy) := h.B.cell 9 rfl
 have hc10 : W.cell? ⟨p, 10, none⟩ = some (.slice A fs.length c) := h.B.cell 10 rfl
 have hpl' : m < W.heap.size := h.M.lt
 have hpl : p < W.heap.size := h.B.lt
 clear h
 go_enter Try.func26, Try.ntmps26
 go_wp2_with (fail)
 refine (mapClone_calls _ m s.sl (H.out.M.same (Below.heap_alloc W _ m hpl'))).mono ?_
 rintro e w1 ⟨rfl, hM1, hb1⟩
 have hB1 : Blk w1 W.heap.size (tcells s m (.slice A2 s.ms.length c2) (.slice A fs.length c)) 73 := (Blk.new W _ 73).below_ hb1
 have hq7 : w1.cell? ⟨W.heap.size, 7, none⟩ = some (.map (some m)) := hB1.cell 7 rfl
 have hqf := hB1.frozen 7
 have hb2 : Below W.heap.size W w1 := ((Below.refl _ W).alloc (Nat.le_refl _) _).trans (hb1.mono (by simp))
 have HM1 := Aside0.mk hM1
 have HB1 := Aside0.mk hB1
 have HBl := Aside0.mk hb2
 have hz1 : W.heap.size + 1 ≤ w1.heap.size := by have := hb1.size; simp at this; omega
 clear hM1 hb1 hB1 hb2 hc0 hc1 hc2 hc3 hc4 hc5 hc6 hc7 hc8 hc9 hc10
 go_upto_region 5 with (fail)
 clear hq7 hqf
 have hm1 : MapAt w1 (W.heap.size + 1) s.sl := by have := HM1.out; simpa using this
 have HM2 := Aside0.mk (hm1.same (Below.heap_setCell w1 ⟨W.heap.size, 7, none⟩ (.map (some (W.heap.size + 1))) _ (show W.heap.size + 1 ≠ W.heap.size by omega)))
 have HB2 := Aside0.mk (HB1.out.set 7 (.map (some (W.heap.size + 1))))
 have HL2 := Aside0.mk (HBl.out.setCell (p := ⟨W.heap.size, 7, none⟩) (Nat.le_refl _) (.map (some (W.heap.size + 1))))
 have hz2 : W.heap.size + 1 < (w1.setCell ⟨W.heap.size, 7, none⟩ (.map (some (W.heap.size + 1)))).heap.size := HM2.out.lt
 obtain ⟨w2, hw2⟩ : ∃ w2, w1.setCell ⟨W.heap.size, 7, none⟩ (.map (some (W.heap.size + 1))) = w2 := ⟨_, rfl⟩
 rw [hw2] at HM2 HB2 HL2 hz2 ⊢
 clear hw2 hm1 HM1 HB1 HBl hz1
 have HT2 := Aside0.mk (H.out.below HL2.out)
 have hp8 : w2.cell? ⟨p, 8, none⟩ = some (.slice A2 s.ms.length c2) := HT2.out.B.cell 8 rfl
 have hp10 : w2.cell? ⟨p, 10, none⟩ = some (.slice A fs.length c) := HT2.out.B.cell 10 rfl
 have HBR := Aside0.mk (Below.refl w2.heap.size w2)
 go_wp2_with (fail)
 refine wp_region_any (by kernel_rfl) ?_
 try (change wpAny _ _ _ _ _ _ _ (World.drew _))
 refine wpAny_take (i := 0) (v := ?_) rfl (by kernel_rfl) (by kernel_rfl) (by kernel_rfl) (fun _ _ _ h => h) (Or.inl ⟨by rfl, ?_⟩) ?_
 rotate_left
 · intro w
   first | (go_simp; done) | (go_simp; with_reducible rfl)
 refine wpAny_take (i := 1) (v := ?_) rfl (by kernel_rfl) (by kernel_rfl) (by kernel_rfl) (fun _ _ _ h => h) (Or.inl ⟨by rfl, ?_⟩) ?_
 rotate_left
 · intro w
   first | (go_simp; done) | (go_simp; with_reducible rfl)
 refine wpAny_take (i := 2) (v := ?_) rfl (by kernel_rfl) (by kernel_rfl) (by kernel_rfl) (fun _ _ _ h => h) (Or.inl ⟨by rfl, ?_⟩) ?_
 rotate_left
 · intro w
   first | (go_simp; done) | (go_simp; with_reducible rfl)
 refine wpAny_take (i := 5) (v := ?_) rfl (by kernel_rfl) (by kernel_rfl) (by kernel_rfl) (fun _ _ _ h => h) (Or.inl ⟨by rfl, ?_⟩) ?_
 rotate_left
 · intro w
   first | (go_simp; done) | (go_simp; with_reducible rfl)
 refine wpAny_take (i := 6) (v := ?_) rfl (by kernel_rfl) (by kernel_rfl) (by kernel_rfl) (fun _ _ _ h => h) (Or.inl ⟨by rfl, ?_⟩) ?_
 rotate_left
 · intro w
   first | (go_simp; done) | (go_simp; with_reducible rfl)
 refine wpAny_take (i := 7) (v := ?_) rfl (by kernel_rfl) (by kernel_rfl) (by kernel_rfl) (fun _ _ _ h => h) (Or.inl ⟨by rfl, ?_⟩) ?_
 rotate_left
 · intro w
   first | (go_simp; done) | (go_simp; with_reducible rfl)
 refine wpAny_ready (rs := [3, 8]) (by kernel_rfl) (by simp) ?_
 refine AllReady.cons rfl (fun K hK => ?_) (AllReady.cons rfl (fun K hK => ?_) AllReady.nil)
 · go_simp
   refine hK _ _ ?_
   clear hK K
   refine wpAny_ready (rs := [4, 8]) (by kernel_rfl) (by simp) ?_
   refine AllReady.cons rfl (fun K hK => ?_) (AllReady.cons rfl (fun K hK => ?_) AllReady.nil)
   · go_simp
     go_wp2_with (fail)
     refine (intClone_calls _ 0 _ s.ms (HT2.out.below (by repeat (first | (with_reducible first | exact HBR.out | apply below_alloc | apply pw_below_drewN | apply below_drew1) | exact HBR.out))).V (by have := H.out.ok.ml; omega)).mono ?_
     rintro e w5 ⟨v5, rfl, hr5, hb5⟩
     obtain ⟨A5, c5, rfl⟩ := own_sl hr5
     have HR5 := Aside0.mk hr5
     have hbx : Below w2.heap.size w2 w5 := (show Below w2.heap.size w2 _ from (by repeat (first | (with_reducible first | exact HBR.out | apply below_alloc | apply pw_below_drewN | apply below_drew1) | exact HBR.out))).trans (hb5.mono (by simp))
     have hp10' : w5.cell? ⟨p, 10, none⟩ = some (.slice A fs.length c) := (HT2.out.below hbx).B.cell 10 rfl
     have HBX := Aside0.mk hbx
     clear hr5 hb5 hbx hp8 hp10
     refine hK _ _ ?_
     clear hK K
     refine wpAny_ready (rs := [8]) (by kernel_rfl) (by simp) ?_
     refine AllReady.cons rfl (fun K hK => ?_) AllReady.nil
     go_simp
     refine hK _ _ ?_
     clear hK K
     refine wpAny_ready (rs := [9]) (by kernel_rfl) (by simp) ?_
     refine AllReady.cons rfl (fun K hK => ?_) AllReady.nil
     go_simp
     go_wp2_with (fail)
     refine (fnClone_calls _ 0 _ fs (HT2.out.below (by repeat (first | (with_reducible first | exact HBX.out | apply below_alloc | apply pw_below_drewN | apply below_drew1) | exact HBX.out))).A (by have := H.out.ok.al; have := H.out.Fl; omega) H.out.one).mono ?_
     rintro e w6 ⟨v6, rfl, hr6, hb6⟩
     obtain ⟨A6, c6, rfl⟩ := own_sl hr6
     have HR6 := Aside0.mk hr6
     have hb56 : Below w5.heap.size w5 w6 := (show Below w5.heap.size w5 _ from by repeat (first | (with_reducible first | exact Below.refl _ _ | apply below_alloc | apply pw_below_drewN | apply below_drew1) | exact Below.refl _ _)).trans (hb6.mono (by simp))
     have hby : Below w2.heap.size w2 w6 := HBX.out.trans (hb56.mono HBX.out.size)
     have hB6 : Blk w6 W.heap.size (tcells s (W.heap.size + 1) (.slice A2 s.ms.length c2) (.slice A fs.length c)) 73 := HB2.out.below_ hby
     have hq8 : w6.cell? ⟨W.heap.size, 8, none⟩ = some (.slice A2 s.ms.length c2) := hB6.cell 8 rfl
     have hq10 : w6.cell? ⟨W.heap.size, 10, none⟩ = some (.slice A fs.length c) := hB6.cell 10 rfl
     have hqf8 := hB6.frozen 8
     have hqf10 := hB6.frozen 10
     have HBY := Aside0.mk hby
     have HB6 := Aside0.mk hB6
     have H56 := Aside0.mk hb56
     clear hr6 hb6 hb56 hby hB6 hp10'
     refine hK _ _ ?_
     clear hK K
     refine wpAny_ready (rs := [10]) (by kernel_rfl) (by simp) ?_
     refine AllReady.cons rfl (fun K hK => ?_) AllReady.nil
     go_simp
     refine hK _ _ ?_
     clear hK K
     refine wpAny_ready (rs := [11]) (by kernel_rfl) (by simp) ?_
     refine AllReady.cons rfl (fun K hK => ?_) AllReady.nil
     go_simp
     refine hK _ _ ?_
     clear hK K
     refine wpAny_ready (rs := [12]) (by kernel_rfl) (by simp) ?_
     refine AllReady.cons rfl (fun K hK => ?_) AllReady.nil
     go_simp
     refine hK _ _ ?_
     clear hK K
     refine wpAny_ready (rs := [13]) (by kernel_rfl) (by simp) ?_
     refine AllReady.cons rfl (fun K hK => ?_) AllReady.nil
     go_simp
     refine hK _ _ ?_
     clear hK K
     refine wpAny_done (by kernel_rfl) ?_ _
     go_wp2
     go_ret
     have hz := HBX.out.size
     have hzy := HBY.out.size
     have hr6 := row_base (b1 := W.heap.size) HR6.out (by first | omega | (simp; omega))
     have hr5 := row_same (row_base (b1 := W.heap.size) HR5.out (by first | omega | (simp; omega))) (fun k e => H56.out.block k (HR5.out.lt k e).2)
     obtain ⟨r1, r2⟩ := copy_end H.out ((HL2.out.trans (HBY.out.mono (by omega)))) HB6.out (Nat.le_refl _) (HM2.out.same (HBY.out.block _ (by omega))) (by omega) hr5 hr6
     exact ⟨W.heap.size, W.heap.size + 1, _, _, rfl, r1, r2⟩
   · go_simp
     refine hK _ _ ?_
     clear hK K
     refine wpAny_ready (rs := [4]) (by kernel_rfl) (by simp) ?_
     refine AllReady.cons rfl (fun K hK => ?_) AllReady.nil
     go_simp
     go_wp2_with (fail)
     refine (intClone_calls _ 0 _ s.ms (HT2.out.below (by repeat (first | (with_reducible first | exact HBR.out | apply below_alloc | apply pw_below_drewN | apply below_drew1) | exact HBR.out))).V (by have := H.out.ok.ml; omega)).mono ?_
     rintro e w5 ⟨v5, rfl, hr5, hb5⟩
     obtain ⟨A5, c5, rfl⟩ := own_sl hr5
     have HR5 := Aside0.mk hr5
     have hbx : Below w2.heap.size w2 w5 := (show Below w2.heap.size w2 _ from (by repeat (first | (with_reducible first | exact HBR.out | apply below_alloc | apply pw_below_drewN | apply below_drew1) | exact HBR.out))).trans (hb5.mono (by simp))
     have hp10' : w5.cell? ⟨p, 10, none⟩ = some (.slice A fs.length c) := (HT2.out.below hbx).B.cell 10 rfl
     have HBX := Aside0.mk hbx
     clear hr5 hb5 hbx hp8 hp10
     refine hK _ _ ?_
     clear hK K
     refine wpAny_ready (rs := [9]) (by kernel_rfl) (by simp) ?_
     refine AllReady.cons rfl (fun K hK => ?_) AllReady.nil
     go_simp
     go_wp2_with (fail)
     refine (fnClone_calls _ 0 _ fs (HT2.out.below (by repeat (first | (with_reducible first | exact HBX.out | apply below_alloc | apply pw_below_drewN | apply below_drew1) | exact HBX.out))).A (by have := H.out.ok.al; have := H.out.Fl; omega) H.out.one).mono ?_
     rintro e w6 ⟨v6, rfl, hr6, hb6⟩
     obtain ⟨A6, c6, rfl⟩ := own_sl hr6
     have HR6 := Aside0.mk hr6
     have hb56 : Below w5.heap.size w5 w6 := (show Below w5.heap.size w5 _ from by repeat (first | (with_reducible first | exact Below.refl _ _ | apply below_alloc | apply pw_below_drewN | apply below_drew1) | exact Below.refl _ _)).trans (hb6.mono (by simp))
     have hby : Below w2.heap.size w2 w6 := HBX.out.trans (hb56.mono HBX.out.size)
     have hB6 : Blk w6 W.heap.size (tcells s (W.heap.size + 1) (.slice A2 s.ms.length c2) (.slice A fs.length c)) 73 := HB2.out.below_ hby
     have hq8 : w6.cell? ⟨W.heap.size, 8, none⟩ = some (.slice A2 s.ms.length c2) := hB6.cell 8 rfl
     have hq10 : w6.cell? ⟨W.heap.size, 10, none⟩ = some (.slice A fs.length c) := hB6.cell 10 rfl
     have hqf8 := hB6.frozen 8
     have hqf10 := hB6.frozen 10
     have HBY := Aside0.mk hby
     have HB6 := Aside0.mk hB6
     have H56 := Aside0.mk hb56
     clear hr6 hb6 hb56 hby hB6 hp10'
     refine hK _ _ ?_
     clear hK K
     refine wpAny_ready (rs := [10]) (by kernel_rfl) (by simp) ?_
     refine AllReady.cons rfl (fun K hK => ?_) AllReady.nil
     go_simp
     refine hK _ _ ?_
     clear hK K
     refine wpAny_ready (rs := [11]) (by kernel_rfl) (by simp) ?_
     refine AllReady.cons rfl (fun K hK => ?_) AllReady.nil
     go_simp
     refine hK _ _ ?_
     clear hK K
     refine wpAny_ready (rs := [12]) (by kernel_rfl) (by simp) ?_
     refine AllReady.cons rfl (fun K hK => ?_) AllReady.nil
     go_simp
     refine hK _ _ ?_
     clear hK K
     refine wpAny_ready (rs := [13]) (by kernel_rfl) (by simp) ?_
     refine AllReady.cons rfl (fun K hK => ?_) AllReady.nil
     go_simp
     refine hK _ _ ?_
     clear hK K
     refine wpAny_done (by kernel_rfl) ?_ _
     go_wp2
     go_ret
     have hz := HBX.out.size
     have hzy := HBY.out.size
     have hr6 := row_base (b1 := W.heap.size) HR6.out (by first | omega | (simp; omega))
     have hr5 := row_same (row_base (b1 := W.heap.size) HR5.out (by first | omega | (simp; omega))) (fun k e => H56.out.block k (HR5.out.lt k e).2)
     obtain ⟨r1, r2⟩ := copy_end H.out ((HL2.out.trans (HBY.out.mono (by omega)))) HB6.out (Nat.le_refl _) (HM2.out.same (HBY.out.block _ (by omega))) (by omega) hr5 hr6
     exact ⟨W.heap.size, W.heap.size + 1, _, _, rfl, r1, r2⟩
 · go_simp
   refine hK _ _ ?_
   clear hK K
   refine wpAny_ready (rs := [3]) (by kernel_rfl) (by simp) ?_
   refine AllReady.cons rfl (fun K hK => ?_) AllReady.nil
   go_simp
   refine hK _ _ ?_
   clear hK K
   refine wpAny_ready (rs := [4]) (by kernel_rfl) (by simp) ?_
   refine AllReady.cons rfl (fun K hK => ?_) AllReady.nil
   go_simp
   go_wp2_with (fail)
   refine (intClone_calls _ 0 _ s.ms (HT2.out.below (by repeat (first | (with_reducible first | exact HBR.out | apply below_alloc | apply pw_below_drewN | apply below_drew1) | exact HBR.out))).V (by have := H.out.ok.ml; omega)).mono ?_
   rintro e w5 ⟨v5, rfl, hr5, hb5⟩
   obtain ⟨A5, c5, rfl⟩ := own_sl hr5
   have HR5 := Aside0.mk hr5
   have hbx : Below w2.heap.size w2 w5 := (show Below w2.heap.size w2 _ from (by repeat (first | (with_reducible first | exact HBR.out | apply below_alloc | apply pw_below_drewN | apply below_drew1) | exact HBR.out))).trans (hb5.mono (by simp))
   have hp10' : w5.cell? ⟨p, 10, none⟩ = some (.slice A fs.length c) := (HT2.out.below hbx).B.cell 10 rfl
   have HBX := Aside0.mk hbx
   clear hr5 hb5 hbx hp8 hp10
   refine hK _ _ ?_
   clear hK K
   refine wpAny_ready (rs := [9]) (by kernel_rfl) (by simp) ?_
   refine AllReady.cons rfl (fun K hK => ?_) AllReady.nil
   go_simp
   go_wp2_with (fail)
   refine (fnClone_calls _ 0 _ fs (HT2.out.below (by repeat (first | (with_reducible first | exact HBX.out | apply below_alloc | apply pw_below_drewN | apply below_drew1) | exact HBX.out))).A (by have := H.out.ok.al; have := H.out.Fl; omega) H.out.one).mono ?_
   rintro e w6 ⟨v6, rfl, hr6, hb6⟩
   obtain ⟨A6, c6, rfl⟩ := own_sl hr6
   have HR6 := Aside0.mk hr6
   have hb56 : Below w5.heap.size w5 w6 := (show Below w5.heap.size w5 _ from by repeat (first | (with_reducible first | exact Below.refl _ _ | apply below_alloc | apply pw_below_drewN | apply below_drew1) | exact Below.refl _ _)).trans (hb6.mono (by simp))
   have hby : Below w2.heap.size w2 w6 := HBX.out.trans (hb56.mono HBX.out.size)
   have hB6 : Blk w6 W.heap.size (tcells s (W.heap.size + 1) (.slice A2 s.ms.length c2) (.slice A fs.length c)) 73 := HB2.out.below_ hby
   have hq8 : w6.cell? ⟨W.heap.size, 8, none⟩ = some (.slice A2 s.ms.length c2) := hB6.cell 8 rfl
   have hq10 : w6.cell? ⟨W.heap.size, 10, none⟩ = some (.slice A fs.length c) := hB6.cell 10 rfl
   have hqf8 := hB6.frozen 8
   have hqf10 := hB6.frozen 10
   have HBY := Aside0.mk hby
   have HB6 := Aside0.mk hB6
   have H56 := Aside0.mk hb56
   clear hr6 hb6 hb56 hby hB6 hp10'
   refine hK _ _ ?_
   clear hK K
   refine wpAny_ready (rs := [10]) (by kernel_rfl) (by simp) ?_
   refine AllReady.cons rfl (fun K hK => ?_) AllReady.nil
   go_simp
   refine hK _ _ ?_
   clear hK K
   refine wpAny_ready (rs := [11]) (by kernel_rfl) (by simp) ?_
   refine AllReady.cons rfl (fun K hK => ?_) AllReady.nil
   go_simp
   refine hK _ _ ?_
   clear hK K
   refine wpAny_ready (rs := [12]) (by kernel_rfl) (by simp) ?_
   refine AllReady.cons rfl (fun K hK => ?_) AllReady.nil
   go_simp
   refine hK _ _ ?_
   clear hK K
   refine wpAny_ready (rs := [13]) (by kernel_rfl) (by simp) ?_
   refine AllReady.cons rfl (fun K hK => ?_) AllReady.nil
   go_simp
   refine hK _ _ ?_
   clear hK K
   refine wpAny_done (by kernel_rfl) ?_ _
   go_wp2
   go_ret
   have hz := HBX.out.size
   have hzy := HBY.out.size
   have hr6 := row_base (b1 := W.heap.size) HR6.out (by first | omega | (simp; omega))
   have hr5 := row_same (row_base (b1 := W.heap.size) HR5.out (by first | omega | (simp; omega))) (fun k e => H56.out.block k (HR5.out.lt k e).2)
   obtain ⟨r1, r2⟩ := copy_end H.out ((HL2.out.trans (HBY.out.mono (by omega)))) HB6.out (Nat.le_refl _) (HM2.out.same (HBY.out.block _ (by omega))) (by omega) hr5 hr6
   exact ⟨W.heap.size, W.heap.size + 1, _, _, rfl, r1, r2⟩
end Go.Proofs.Ytlffhagjpfcecaa.PA

namespace Go.Proofs.Ytlffhagjpfcecaa.PA
open Go.RowKit Go.Maps Go.Shelf Go.Sort Go.Proofs.YtlffhagjpfcecaaW.PrintWords Go.Proofs.YtlffhagjpfcecaaW.PrintLast Go.Proofs.YtlffhagjpfcecaaW.PrintMore
set_option linter.unusedVariables false
set_option linter.unusedSimpArgs false
theorem TAtW.moved {W w w' : World} {S S1 C : Nat → Prop} {p q : Nat} {s s' : TS} {m m' : Nat} {vm va vm' va' : Value} {fs fs' : List Value} (h : TAtW W S C p s m vm va fs) (h' : TAtW w S1 C q s' m' vm' va' fs') (h1 : ∀ k, S1 k → W.heap.size ≤ k)
 (hz : w.heap.size ≤ w'.heap.size) (hB : Blk w' p (tcells s' m' vm' va') 73) (hk : ∀ k, k < w.heap.size → k ≠ p → W.heap.size + 2 ≤ k ∨ C k → w'.heap[k]? = w.heap[k]?)
 (h2 : ∀ k, S1 k → W.heap.size + 2 ≤ k) : TAtW w' (Sx W S) C p s' m' vm' va' fs' where
 B := hB
 M := h'.M.same (hk m' h'.M.lt (by have := h2 m' h'.sm; have := h.B.lt; omega) (.inl (h2 m' h'.sm)))
 V := row_same h'.V (fun k e => hk k (row_bl h'.V e) (by have := h2 k (h'.sv k e); have := h.B.lt; omega) (.inl (h2 k (h'.sv k e))))
 A := row_same h'.A (fun k e => hk k (row_bl h'.A e) (by have := h2 k (h'.sa k e); have := h.B.lt; omega) (.inl (h2 k (h'.sa k e))))
 Fl := h'.Fl
 F := by
  intro i a f ea ef
  have := h'.F i a f ea ef
  have key : ∀ {b : Nat} {t : TypeId} {v : Value}, Boxed w b t v → C b → Boxed w' b t v := fun {b _ _} q1 q2 => (hk b q1.lt (fun e => h.dj b q2 (e ▸ h.sp)) (.inr q2)).trans q1
  cases a <;> simp only [AskV] at this ⊢
  · exact this
  · exact this
  · obtain ⟨b, e, q1, q2⟩ := this
    exact ⟨b, e, key q1 q2, q2⟩
  · obtain ⟨b, b2, e, q1, q2, q3, q4⟩ := this
    exact ⟨b, b2, e, key q1 q3, key q2 q4, q3, q4⟩
  · obtain ⟨b, e, q1, q2⟩ := this
    exact ⟨b, e, key q1 q2, q2⟩
 sp := .inl h.sp
 sm := .inr (h1 m' h'.sm)
 sv := fun k e => .inr (h1 k (h'.sv k e))
 sa := fun k e => .inr (h1 k (h'.sa k e))
 dj := fun k hc hs => hs.elim (h.dj k hc) (fun hh => by have := h.cl k hc; omega)
 cl := fun k hc => Nat.lt_of_lt_of_le (h'.cl k hc) hz
 ok := h'.ok
theorem as77b (v : Value) (w : World) : (Instr.typeAssert (.iface 77 v) 20 77 true).run Try.prog w = .ok (.tuple #[v, .bool true]) w := by kernel_rfl
theorem asnilb (w : World) : (Instr.typeAssert .nilIface 20 77 true).run Try.prog w = .ok (.tuple #[.agg #[.int .i64 0], .bool false]) w := by kernel_rfl
attribute [local go_sem] as77b asnilb
set_option maxRecDepth 100000 in
theorem catch2_idle (p0 p1 : Value) (w : World) :
 CallsD Try.prog 45 #[p0, p1] .returning w fun e u' w' => e = .returned (.tuple #[]) ∧ u' = .returning ∧ w' = w.alloc (.cells #[.int .i64 0] 77) := by
 refine callsD_of_wpS Try.func45 rfl fun c₀ cs hu => ?_
 apply wpS_seq
 apply wpS_region
 simp [wpOpsS, go_sem, recoverD, hu, Try.ntmps45, Exit.thenS]
 refine wpS_of_wp ?_
 simp only [Array.replicate_succ, Array.replicate_zero, List.push_toArray, List.setIfInBounds_toArray, List.set_cons_zero, List.set_cons_succ, List.append_toArray, List.cons_append, List.nil_append]
 go_wp2
 refine ⟨rfl, FrameMode.returning, ?_, .tuple #[], by simp [results, Try.results45], rfl, rfl, rfl⟩
 cases c₀
 simp_all
def cycD (m : Nat) : List Deferred := [{ target := .fn (.func 45) #[.pointer (some ⟨m, 0, none⟩), .pointer (some ⟨m + 1, 0, none⟩)], args := #[] }]
def DonePost (W : World) (S C : Nat → Prop) (p : Nat) (l : List S39) (s' : TS) (e : Ending) (w' : World) : Prop :=
 ∃ v, e = .returned (.tuple #[v, .int .i64 0]) ∧ w'.ownsRow W.heap.size 39 3 v l.length (fl39 l) ∧ TAt w' (Sx W S) C p s' ∧ Step W w' S
theorem cyc_leave {W w : World} {S C : Nat → Prop} {p : Nat} {l : List S39} {s' : TS} {v : Value} (tmps : Array Value) (h4 : tmps[4]? = some (.pointer (some ⟨W.heap.size, 0, none⟩))) (h5 : tmps[5]? = some (.pointer (some ⟨W.heap.size + 1, 0, none⟩)))
 (b0 : Boxed w W.heap.size 22 v) (b1 : Boxed w (W.heap.size + 1) 23 (.int .i64 0)) (hr : w.ownsRow W.heap.size 39 3 v l.length (fl39 l)) (hT : TAt w (Sx W S) C p s') (hS : Step W w S) :
 Leaves Try.prog Try.f17 tmps (DonePost W S C p l s') (cycD W.heap.size) .returning w := by
 refine leaves_cons (f := 45) (args := #[.pointer (some ⟨W.heap.size, 0, none⟩), .pointer (some ⟨W.heap.size + 1, 0, none⟩)]) (by simp) (by simp [go_sem]) ?_
 refine (catch2_idle _ _ w).mono ?_
 rintro e u' w'' ⟨rfl, rfl, rfl⟩
 have c0 := (b0.alloc (Obj.cells #[.int .i64 0] 77)).cell
 have c1 := (b1.alloc (Obj.cells #[.int .i64 0] 77)).cell
 have hbl : Below w.heap.size w (w.alloc (Obj.cells #[.int .i64 0] 77)) := (Below.refl _ w).alloc (Nat.le_refl _) _
 refine ⟨.tuple #[v, .int .i64 0], by simp [results, Try.results17, go_sem, h4, h5, c0, c1], v, rfl, row_same hr (fun k e => hbl.block k (row_bl hr e)), hT.below hbl, hS.trans (Step.of_below hbl S) (fun _ => .inl)⟩
structure Puts (w w' : World) (p : Nat) : Prop where
 same : ∀ k, k ≠ p → w'.heap[k]? = w.heap[k]?
 size : w'.heap.size = w.heap.size
 os : w'.os = w.os
 tape : w'.tape = w.tape
 output : w'.output = w.output
theorem Puts.refl (w : World) (p : Nat) : Puts w w p := ⟨fun _ _ => rfl, rfl, rfl, rfl, rfl⟩
theorem Puts.set {w w' : World} {p : Nat} (h : Puts w w' p) (j : Nat) (u : Value) : Puts w (w'.setCell ⟨p, j, none⟩ u) p :=
 ⟨fun k hk => (other_set hk).trans (h.same k hk), by rw [← h.size]; simp [World.setCell], h.os, h.tape, h.output⟩
theorem set11 (x0 x1 x2 x3 x4 x5 x6 x7 x8 x9 x10 y0 y1 y2 y3 y4 y5 y6 y7 y8 y9 y10 : Value) : (((((((((((#[x0, x1, x2, x3, x4, x5, x6, x7, x8, x9, x10].setIfInBounds 0 y0).setIfInBounds 1 y1).setIfInBounds 2 y2).setIfInBounds 3 y3).setIfInBounds 4 y4).setIfInBounds 5 y5).setIfInBounds 6 y6).setIfInBounds 7 y7).setIfInBounds 8 y8).setIfInBounds 9 y9).setIfInBounds 10 y10) = #[y0, y1, y2, y3, y4, y5, y6, y7, y8, y9, y10] := by
 simp only [List.setIfInBounds_toArray, List.set_cons_zero, List.set_cons_succ]
theorem Blk.to {w : World} {b : Nat} {c c' : Array Value} {t : TypeId} (h : Blk w b c t) (e : c = c') : Blk w b c' t := e ▸ h
theorem cyc_last {W w2 w3 w4 w5 : World} {S S1 C : Nat → Prop} {p q m m2 : Nat} {s s' : TS} {vm va vm2 va2 v : Value} {fs fs' : List Value} {l : List S39} (tmps : Array Value) (h4 : tmps[4]? = some (.pointer (some ⟨W.heap.size, 0, none⟩))) (h5 : tmps[5]? = some (.pointer (some ⟨W.heap.size + 1, 0, none⟩)))
 (H : TAtW W S C p s m vm va fs) (h' : TAtW w3 S1 C q s' m2 vm2 va2 fs') (h1 : ∀ k, S1 k → W.heap.size + 2 ≤ k) (e0 : Boxed w3 W.heap.size 22 (.slice none 0 0)) (e1 : Boxed w3 (W.heap.size + 1) 23 (.int .i64 0))
 (hrow : w3.ownsRow w2.heap.size 39 3 v l.length (fl39 l)) (hz2 : W.heap.size + 2 ≤ w2.heap.size) (hS : Step W w3 S) (p4 : Puts w3 w4 W.heap.size) (e4 : Boxed w4 W.heap.size 22 v) (p5 : Puts w4 w5 p) (hB : Blk w5 p (tcells s' m2 vm2 va2) 73) :
 Leaves Try.prog Try.f17 tmps (DonePost W S C p l s') (cycD W.heap.size) .returning ((w5.setCell ⟨W.heap.size, 0, none⟩ v).setCell ⟨W.heap.size + 1, 0, none⟩ (.int .i64 0)) := by
 have hpl := H.B.lt
 have hpn : p ≠ W.heap.size := by omega
 have hpn1 : p ≠ W.heap.size + 1 := by omega
 have p6 : Puts w5 (w5.setCell ⟨W.heap.size, 0, none⟩ v) W.heap.size := (Puts.refl _ _).set 0 v
 have p7 : Puts (w5.setCell ⟨W.heap.size, 0, none⟩ v) ((w5.setCell ⟨W.heap.size, 0, none⟩ v).setCell ⟨W.heap.size + 1, 0, none⟩ (.int .i64 0)) (W.heap.size + 1) := (Puts.refl _ _).set 0 _
 have all : ∀ k, k ≠ p → k ≠ W.heap.size → k ≠ W.heap.size + 1 → ((w5.setCell ⟨W.heap.size, 0, none⟩ v).setCell ⟨W.heap.size + 1, 0, none⟩ (.int .i64 0)).heap[k]? = w3.heap[k]? := fun k a b c => (p7.same k c).trans ((p6.same k b).trans ((p5.same k a).trans (p4.same k b)))
 have hz : ((w5.setCell ⟨W.heap.size, 0, none⟩ v).setCell ⟨W.heap.size + 1, 0, none⟩ (.int .i64 0)).heap.size = w3.heap.size := p7.size.trans (p6.size.trans (p5.size.trans p4.size))
 have hB7 : Blk ((w5.setCell ⟨W.heap.size, 0, none⟩ v).setCell ⟨W.heap.size + 1, 0, none⟩ (.int .i64 0)) p (tcells s' m2 vm2 va2) 73 := (hB.other (a := ⟨W.heap.size, 0, none⟩) v hpn).other (a := ⟨W.heap.size + 1, 0, none⟩) _ hpn1
 have c0 : Boxed ((w5.setCell ⟨W.heap.size, 0, none⟩ v).setCell ⟨W.heap.size + 1, 0, none⟩ (.int .i64 0)) W.heap.size 22 v := (p7.same _ (by omega)).trans (Boxed.set v ((p5.same _ (Ne.symm hpn)).trans e4 : Boxed w5 W.heap.size 22 v))
 have c1 : Boxed ((w5.setCell ⟨W.heap.size, 0, none⟩ v).setCell ⟨W.heap.size + 1, 0, none⟩ (.int .i64 0)) (W.heap.size + 1) 23 (.int .i64 0) := Boxed.set _ ((p6.same _ (by omega)).trans ((p5.same _ (Ne.symm hpn1)).trans ((p4.same _ (by omega)).trans e1)) : Boxed (w5.setCell ⟨W.heap.size, 0, none⟩ v) (W.heap.size + 1) 23 (.int .i64 0))
 have os7 : Step w3 ((w5.setCell ⟨W.heap.size, 0, none⟩ v).setCell ⟨W.heap.size + 1, 0, none⟩ (.int .i64 0)) (fun k => k = p ∨ W.heap.size ≤ k) :=
  ⟨p7.os.trans (p6.os.trans (p5.os.trans p4.os)), p7.tape.trans (p6.tape.trans (p5.tape.trans p4.tape)), p7.output.trans (p6.output.trans (p5.output.trans p4.output)), Nat.le_of_eq hz.symm, fun i hi hn => all i (fun e => hn (.inl e)) (fun e => hn (.inr (by omega))) (fun e => hn (.inr (by omega)))⟩
 clear p4 p5 p6 p7 e4
 refine cyc_leave tmps h4 h5 c0 c1 (row_same (row_base hrow (by omega)) (fun k e => ?_)) ⟨m2, vm2, va2, fs', TAtW.moved H h' (fun k hk => by have := h1 k hk; omega) (Nat.le_of_eq hz.symm) hB7 (fun k hk hn ho => ?_) h1⟩ (hS.trans os7 (fun k hk => hk.elim (fun e => .inl (e ▸ H.sp)) .inr))
 · have := (hrow.lt k e).1
   exact all k (by omega) (by omega) (by omega)
 · have hkk : k < W.heap.size ∨ W.heap.size + 2 ≤ k := ho.elim .inr (fun hc => .inl (H.cl k hc))
   exact all k hn (by omega) (by omega)
set_option maxRecDepth 100000 in
set_option maxHeartbeats 4000000 in
theorem Cycle_calls {W : World} {S C : Nat → Prop} {p : Nat} {s s' : TS} {l : List S39} (h : TAt W S C p s) (hS : ∀ k, S k → k < W.heap.size) (fr : Int) (hf0 : 0 ≤ fr) (hf1 : fr ≤ 4096) (hc : cycM s fr = some (l, s')) :
 Calls Try.prog 17 #[.pointer (some ⟨p, 0, none⟩), .int .i64 fr] W (DonePost W S C p l s') := by
 obtain ⟨m, vm, va, fs, h⟩ := h
 have hmf : ∀ (fn : Fn) (first cap : Array Value) (w : World), (Instr.makeFunc fn first cap).run Try.prog w = .ok (.func fn first cap) w := fun _ _ _ _ => rfl
 have H := Aside0.mk h
 have HS := Aside0.mk hS
 have HC := Aside0.mk hc
 have hpl : p < W.heap.size := h.B.lt
 have hA : transport_within.f fr 0 4096 = some true := by rw [within_eq fr 4096, decide_eq_true ⟨hf0, hf1⟩]
 clear h hS hc
 go_enter_defers Try.func17, Try.ntmps17
 go_upto_region 2 with (fail)
 obtain ⟨W0, hW0⟩ : ∃ W0, (W.alloc (Obj.cells #[.slice none 0 0] 22)).alloc (Obj.cells #[.int .i64 0] 23) = W0 := ⟨_, rfl⟩
 have sz : W0.heap.size = W.heap.size + 2 := by rw [← hW0]; simp
 have HB0 : Below W.heap.size W W0 := by
  rw [← hW0]
  exact ((Below.refl _ W).alloc (by simp) _).alloc (by simp) _
 have b0 : Boxed W0 W.heap.size 22 (.slice none 0 0) := by
  unfold Boxed; rw [← hW0]; simp only [hal, World.size_alloc]; repeat (first | rw [if_pos (by omega)] | rw [if_pos trivial] | rw [if_neg (by omega)])
 have b1 : Boxed W0 (W.heap.size + 1) 23 (.int .i64 0) := by
  unfold Boxed; rw [← hW0]; simp only [hal, World.size_alloc]; repeat (first | rw [if_pos (by omega)] | rw [if_pos trivial] | rw [if_neg (by omega)])
 rw [hW0]
 clear hW0
 have d0 := b0.cell
 have d1 := b1.cell
 have z0 := b0.frozen
 have z1 := b1.frozen
 have HT0 := Aside0.mk (H.out.below HB0)
 have B0 := Aside0.mk b0
 have B1 := Aside0.mk b1
 go_wp2_with (first | (go_at_call 38; (with_reducible refine (transport_within.calls fr 0 4096 true _ hA).mono ?_); rintro e w' ⟨rfl, ⟨nd, rfl⟩⟩) | (go_at_call 46; (with_reducible refine (must_ok_calls 7 _).mono ?_); rintro e w' ⟨rfl, rfl⟩) | (go_at_call 46; (with_reducible refine (must_ok_calls 1 _).mono ?_); rintro e w' ⟨rfl, rfl⟩))
 refine (copy_calls (HT0.out.below (pw_below_drewN (Below.refl _ _) _))).mono ?_
 rintro e w2 ⟨q, m2, vm2, va2, rfl, hT2, hb2⟩
 have HT2 := Aside0.mk hT2
 have HB2 := Aside0.mk hb2
 clear hT2 hb2
 go_wp2_with (fail)
 refine (cycle_calls HT2.out fr hf0 hf1).mono ?_
 rintro e w3 hcp
 rw [HC.out] at hcp
 obtain ⟨v, vm3, rfl, hrow, hT3, hS3⟩ := hcp
 obtain ⟨A6, c6, rfl⟩ := own_sl hrow
 obtain ⟨A7, c7, rfl⟩ := own_sl hT3.V
 have hz3 := hS3.kept.1
 have hz2 := HB2.out.size
 have hz2' : W.heap.size + 2 ≤ w2.heap.size := by simp at hz2; omega
 have hb3 : ∀ k, k < W.heap.size + 2 → w3.heap[k]? = w'.heap[k]? := fun k hk => (hS3.kept.2 k (by omega) (fun hh => by simp at hh; omega)).trans (HB2.out.block k (by simp; omega))
 have hq : W.heap.size + 2 ≤ q := by have := HT2.out.sp; simp at this; omega
 have hpB : Blk w3 p (tcells s m vm va) 73 := H.out.B.same ((hb3 p (by omega)).trans (HB0.block p hpl))
 have e0 : Boxed w3 W.heap.size 22 (.slice none 0 0) := (hb3 _ (by omega)).trans b0
 have e1 : Boxed w3 (W.heap.size + 1) 23 (.int .i64 0) := (hb3 _ (by omega)).trans b1
 have d0 := e0.cell
 have d1 := e1.cell
 have z0 := e0.frozen
 have z1 := e1.frozen
 have hqn : q ≠ W.heap.size := by omega
 have hqn1 : q ≠ W.heap.size + 1 := by omega
 have hpn : p ≠ W.heap.size := by omega
 have hpn1 : p ≠ W.heap.size + 1 := by omega
 have hpq : p ≠ q := by omega
 have HRow := Aside0.mk hrow
 have HT3 := Aside0.mk hT3
 have HS3 := Aside0.mk hS3
 have HPB := Aside0.mk hpB
 have HE := Aside0.mk hb3
 have hx0 : w3.cell? ⟨q, 0, none⟩ = some (.int .i64 s'.bg) := hT3.B.cell 0 rfl
 have hx1 : w3.cell? ⟨q, 1, none⟩ = some (.int .i64 s'.en) := hT3.B.cell 1 rfl
 have hx2 : w3.cell? ⟨q, 2, none⟩ = some (.int .i64 s'.st) := hT3.B.cell 2 rfl
 have hx3 : w3.cell? ⟨q, 3, none⟩ = some (.int .i64 s'.ps) := hT3.B.cell 3 rfl
 have hx4 : w3.cell? ⟨q, 4, none⟩ = some (.int .i64 s'.wt) := hT3.B.cell 4 rfl
 have hx5 : w3.cell? ⟨q, 5, none⟩ = some (.int .i64 s'.wd) := hT3.B.cell 5 rfl
 have hx6 : w3.cell? ⟨q, 6, none⟩ = some (.bool s'.fr) := hT3.B.cell 6 rfl
 have hx7 : w3.cell? ⟨q, 7, none⟩ = some (.map (some m2)) := hT3.B.cell 7 rfl
 have hx8 : w3.cell? ⟨q, 8, none⟩ = some (.slice A7 s'.ms.length c7) := hT3.B.cell 8 rfl
 have hx9 : w3.cell? ⟨q, 9, none⟩ = some (.int .i64 s'.cy) := hT3.B.cell 9 rfl
 have hx10 : w3.cell? ⟨q, 10, none⟩ = some (.slice none 0 0) := hT3.B.cell 10 rfl
 obtain ⟨A8, c8, rfl⟩ := own_sl H.out.V
 obtain ⟨A9, c9, rfl⟩ := own_sl H.out.A
 have hy0 : w3.cell? ⟨p, 0, none⟩ = some (.int .i64 s.bg) := hpB.cell 0 rfl
 have hg0 := hpB.frozen 0
 have hy1 : w3.cell? ⟨p, 1, none⟩ = some (.int .i64 s.en) := hpB.cell 1 rfl
 have hg1 := hpB.frozen 1
 have hy2 : w3.cell? ⟨p, 2, none⟩ = some (.int .i64 s.st) := hpB.cell 2 rfl
 have hg2 := hpB.frozen 2
 have hy3 : w3.cell? ⟨p, 3, none⟩ = some (.int .i64 s.ps) := hpB.cell 3 rfl
 have hg3 := hpB.frozen 3
 have hy4 : w3.cell? ⟨p, 4, none⟩ = some (.int .i64 s.wt) := hpB.cell 4 rfl
 have hg4 := hpB.frozen 4
 have hy5 : w3.cell? ⟨p, 5, none⟩ = some (.int .i64 s.wd) := hpB.cell 5 rfl
 have hg5 := hpB.frozen 5
 have hy6 : w3.cell? ⟨p, 6, none⟩ = some (.bool s.fr) := hpB.cell 6 rfl
 have hg6 := hpB.frozen 6
 have hy7 : w3.cell? ⟨p, 7, none⟩ = some (.map (some m)) := hpB.cell 7 rfl
 have hg7 := hpB.frozen 7
 have hy8 : w3.cell? ⟨p, 8, none⟩ = some (.slice A8 s.ms.length c8) := hpB.cell 8 rfl
 have hg8 := hpB.frozen 8
 have hy9 : w3.cell? ⟨p, 9, none⟩ = some (.int .i64 s.cy) := hpB.cell 9 rfl
 have hg9 := hpB.frozen 9
 have hy10 : w3.cell? ⟨p, 10, none⟩ = some (.slice A9 fs.length c9) := hpB.cell 10 rfl
 have hg10 := hpB.frozen 10
 clear hrow hT3 hS3 hb3 hpB b0 b1 e0 e1
 go_wp2_with (fail)
 refine cyc_last _ rfl rfl H.out HT3.out ?_ ((HE.out _ (by omega)).trans B0.out) ((HE.out _ (by omega)).trans B1.out) HRow.out hz2' ?_ ((Puts.refl w3 W.heap.size).set 0 (.slice A6 l.length c6)) (Boxed.set _ ((HE.out _ (by omega)).trans B0.out)) ?_ ?_
 · intro k hk
   rcases hk with hk | hk
   · simp at hk; omega
   · omega
 · exact (((Step.of_below HB0 S).trans (Step.of_below (pw_below_drewN (Below.refl _ _) _) S) (fun _ => .inl)).trans (Step.of_below HB2.out S) (fun _ => .inl)).trans HS3.out (fun k hk => .inr (by simp at hk; omega))
 · exact (((((((((((Puts.refl _ _).set 0 _).set 1 _).set 2 _).set 3 _).set 4 _).set 5 _).set 6 _).set 7 _).set 8 _).set 9 _).set 10 _
 · refine Blk.to ((((((((((((HPB.out.other (a := ⟨W.heap.size, 0, none⟩) _ hpn).set 0 _).set 1 _).set 2 _).set 3 _).set 4 _).set 5 _).set 6 _).set 7 _).set 8 _).set 9 _).set 10 _) ?_
   exact set11 _ _ _ _ _ _ _ _ _ _ _ _ _ _ _ _ _ _ _ _ _ _
end Go.Proofs.Ytlffhagjpfcecaa.PA

namespace Go.Proofs.Ytlffhagjpfcecaa.PA
open Go.RowKit Go.Maps Go.Shelf Go.Sort Go.Proofs.YtlffhagjpfcecaaW.PrintWords Go.Proofs.YtlffhagjpfcecaaW.PrintLast Go.Proofs.YtlffhagjpfcecaaW.PrintMore
set_option linter.unusedVariables false
set_option linter.unusedSimpArgs false
theorem row_rr {W : World} {e e' : TypeId} {v v' : Value} {n n' : Nat} {xs xs' : List Value} (hr : W.ownsRow 0 e 1 v n xs) (hr' : W.ownsRow 0 e' 1 v' n' xs') (he : e ≠ e') : ∀ k, v.ownBlock = some k → v'.ownBlock ≠ some k := by
 intro k hk hk'
 rcases hr.2 with ⟨rfl, _⟩ | ⟨g, cap, cur, rfl, _, hgb, _⟩
 · simp [Value.ownBlock] at hk
 rcases hr'.2 with ⟨rfl, _⟩ | ⟨g', cap', cur', rfl, _, hgb', _⟩
 · simp [Value.ownBlock] at hk'
 simp [Value.ownBlock] at hk hk'
 subst hk
 subst hk'
 rw [hgb] at hgb'
 cases hgb'
 exact he rfl
theorem AskV.func {W : World} {C : Nat → Prop} {a : Ask} {f : Value} (h : AskV W C a f) : ∃ fn x y, f = .func fn x y := by
 cases a <;> simp only [AskV] at h
 · exact ⟨_, _, _, h⟩
 · exact ⟨_, _, _, h⟩
 · obtain ⟨b, e, _⟩ := h; exact ⟨_, _, _, e⟩
 · obtain ⟨b, b2, e, _⟩ := h; exact ⟨_, _, _, e⟩
 · obtain ⟨b, e, _⟩ := h; exact ⟨_, _, _, e⟩
def askT (s : TS) (a : Ask) : TS := { s with aq := s.aq ++ [a] }
theorem ask_ok {s : TS} (h : TOk s) (a : Ask) (ha : askOk a) (hl : s.aq.length < 10000) : TOk (askT s a) :=
 ⟨h.p0, h.p1, h.b0, h.b1, h.e0, h.e1, h.be, h.s0, h.s1, h.wt0, h.wt1, h.asc, h.key, h.ll, h.ml, by show (s.aq ++ [a]).length ≤ 10000; rw [List.length_append]; simp; omega, by
  intro x hx
  rcases List.mem_append.1 hx with hx | hx
  · exact h.aok x hx
  · rw [List.mem_singleton.1 hx]; exact ha⟩
theorem ask_lies {W w5 : World} {S C : Nat → Prop} {p : Nat} {s : TS} {m : Nat} {vm : Value} {A : Option Addr} {c : Nat} {fs : List Value} {a : Ask} {f : Value} {g cap : Nat} (h : TAtW W S C p s m vm (.slice A fs.length c) fs) (hf : AskV W C a f) (ha : askOk a) (hl : s.aq.length < 10000)
 (hown : w5.ownsRow 0 75 1 (.slice (some ⟨g, 0, none⟩) (fs.length + 1) cap) (fs.length + 1) (fs ++ [f])) (o : Obj) (hg : (W.alloc o).grownBy w5 (Value.slice A fs.length c).ownBlock) (hat : (Value.slice A fs.length c).ownBlock = some g ∨ g = W.heap.size + 1) :
 TAtW (w5.setCell ⟨p, 10, none⟩ (.slice (some ⟨g, 0, none⟩) (fs.length + 1) cap)) (Sx W S) C p (askT s a) m vm (.slice (some ⟨g, 0, none⟩) (fs.length + 1) cap) (fs ++ [f]) ∧ Step W (w5.setCell ⟨p, 10, none⟩ (.slice (some ⟨g, 0, none⟩) (fs.length + 1) cap)) S := by
 have hpa : p < W.heap.size := h.B.lt
 have hap : ∀ k, (Value.slice A fs.length c).ownBlock = some k → k ≠ p := row_ne h.A h.B (by decide)
 have hsz := hg.size
 simp at hsz
 have b5 : ∀ k, k < W.heap.size → (Value.slice A fs.length c).ownBlock ≠ some k → w5.heap[k]? = W.heap[k]? := fun k hk hn => (hg.block k (by simp; omega) (fun e => hn e.symm)).trans (Below.heap_alloc W o k hk)
 have hB5 : Blk w5 p (tcells s m vm (.slice A fs.length c)) 73 := h.B.same (b5 p hpa (fun e => hap p e rfl))
 have hgp : g ≠ p := by
  rcases hat with hat | hat
  · exact hap g hat
  · omega
 have all : ∀ k, k < W.heap.size → k ≠ p → (Value.slice A fs.length c).ownBlock ≠ some k → (w5.setCell ⟨p, 10, none⟩ (.slice (some ⟨g, 0, none⟩) (fs.length + 1) cap)).heap[k]? = W.heap[k]? := fun k h1 h2 h3 => (other_set h2).trans (b5 k h1 h3)
 have st : Step W (w5.setCell ⟨p, 10, none⟩ (.slice (some ⟨g, 0, none⟩) (fs.length + 1) cap)) S :=
  ⟨hg.os, hg.tape, hg.output, by simp; omega, fun i hi hn => all i hi (fun e => hn (e ▸ h.sp)) (fun e => hn (h.sa i e))⟩
 refine ⟨?_, st⟩
 exact {
  B := hB5.set 10 _
  M := h.M.same (all m h.M.lt h.pm (fun e => row_nm h.A h.M m e rfl))
  V := row_same h.V (fun k e => all k (row_bl h.V e) (row_ne h.V h.B (by decide) k e) (row_rr h.V h.A (by decide) k e))
  A := by
   have : w5.ownsRow 0 75 1 (.slice (some ⟨g, 0, none⟩) (fs.length + 1) cap) (fs ++ [f]).length (fs ++ [f]) := by rw [List.length_append]; exact hown
   exact row_same this (fun k e => other_set (by simp [Value.ownBlock] at e; omega))
  Fl := by show (fs ++ [f]).length = (s.aq ++ [a]).length; rw [List.length_append, List.length_append, h.Fl]; rfl
  F := by
   intro i a' f' ea ef
   have ea : (s.aq ++ [a])[i]? = some a' := ea
   have hfl := h.Fl
   by_cases hi : i < fs.length
   · rw [List.getElem?_append_left (by omega)] at ea ef
     exact (h.F i a' f' ea ef).kept st.kept h.dj
   · rw [List.getElem?_append_right (by omega)] at ea ef
     have hi0 : i - fs.length = 0 := by
      rcases Nat.eq_zero_or_pos (i - fs.length) with h0 | h0
      · exact h0
      · rw [List.getElem?_eq_none (by simp; omega)] at ef; cases ef
     have hi1 : i - s.aq.length = 0 := by omega
     rw [hi0] at ef
     rw [hi1] at ea
     cases ef
     cases ea
     exact hf.kept st.kept h.dj
  sp := .inl h.sp
  sm := .inl h.sm
  sv := fun k e => .inl (h.sv k e)
  sa := fun k e => by
   simp [Value.ownBlock] at e
   subst e
   rcases hat with hat | hat
   · exact .inl (h.sa _ hat)
   · exact .inr (by omega)
  dj := h.cdj
  cl := fun k hc => Nat.lt_of_lt_of_le (h.cl k hc) st.kept.1
  ok := ask_ok h.ok a ha hl }
set_option maxRecDepth 100000 in
theorem ask_calls {W : World} {S C : Nat → Prop} {p : Nat} {s : TS} {m : Nat} {vm va : Value} {fs : List Value} (h : TAtW W S C p s m vm va fs) (a : Ask) (f : Value) (hf : AskV W C a f) (ha : askOk a) (hl : s.aq.length < 10000) :
 Calls Try.prog 39 #[.pointer (some ⟨p, 0, none⟩), f] W fun e w' => e = .returned (.int .i64 0) ∧ (∃ va' fs', TAtW w' (Sx W S) C p (askT s a) m vm va' fs') ∧ Step W w' S := by
 obtain ⟨A, c, rfl⟩ := own_sl h.A
 obtain ⟨fn, x, y, rfl⟩ := hf.func
 have H := Aside0.mk h
 have hc10 : W.cell? ⟨p, 10, none⟩ = some (.slice A fs.length c) := h.B.cell 10 rfl
 have hpl : p < W.heap.size := h.B.lt
 have hfl : fs.length < 10000 := by have := h.Fl; omega
 have h1 := hf.one
 have HF := Aside0.mk hf
 have HA := Aside0.mk ha
 have HL := Aside0.mk hl
 obtain ⟨i0, hi, hz0, hz1, hz2⟩ := info_parts info75
 have hpo : (Value.slice A fs.length c).ownBlock ≠ some p := fun e => row_ne h.A h.B (by decide) p e rfl
 have hB := Aside0.mk h.B
 clear h hf ha hl
 go_enter Try.func39, Try.ntmps39
 go_wp2_with (at_builtin; go_loud (refine wpList_append_lies _ rfl (.tmp 11) (.tmp 13) 71 rfl 0 75 i0 .nilFunc 1 8 Try.underlying71 hi hz0 hz1 hz2 rfl (by decide) (.slice A fs.length c) fs.length fs rfl (H.out.A.alloc _) ⟨W.heap.size, 0, none⟩ 1 1 [.func fn x y] rfl rfl ?c1 ?c2 (by decide) ?c3 ?c4 ?c5 (W.heap.size + 1) ?c6 ?_; (case c1 => refine one_cell _ _ _ _ ?_; rfl); (case c2 => intro u hu; simp only [List.mem_singleton] at hu; subst hu; exact h1); (case c3 => unfold maxLen; omega); (case c4 => omega); (case c5 => simp); (case c6 => simp); intro g cap w5 hown hg hat hlt; have HO5 := Aside0.mk hown; have HG := Aside0.mk hg; have HAT := Aside0.mk hat; have hc10 := (hg.cell_far ⟨p, 10, none⟩ (by simp; omega) (fun e => hpo e.symm)).trans ((Blk.alloc hB.out _).cell 10 rfl); have hg10 := (hg.frozen_far ⟨p, 10, none⟩ (by simp; omega) (fun e => hpo e.symm)).trans ((Blk.alloc hB.out _).frozen 10); clear hown hg hat hlt))
 go_ret
 obtain ⟨r1, r2⟩ := ask_lies H.out HF.out HA.out HL.out HO5.out _ HG.out HAT.out
 exact ⟨rfl, ⟨_, _, r1⟩, r2⟩
end Go.Proofs.Ytlffhagjpfcecaa.PA

namespace Go.Proofs.Ytlffhagjpfcecaa.PA
open Go.RowKit Go.Maps Go.Shelf Go.Sort Go.Proofs.YtlffhagjpfcecaaW.PrintWords Go.Proofs.YtlffhagjpfcecaaW.PrintLast Go.Proofs.YtlffhagjpfcecaaW.PrintMore
set_option linter.unusedVariables false
set_option linter.unusedSimpArgs false
def Has (B : Nat) (w : World) (p : Nat) (s : TS) : Prop := ∃ S C, TAt w S C p s ∧ (∀ k, S k → B ≤ k ∧ k < w.heap.size) ∧ ∀ k, C k → B ≤ k
section
variable {w w' : World} {S C : Nat → Prop} {p B : Nat} {s : TS} {m : Nat} {vm va : Value} {fs : List Value}
theorem TAtW.trim (h : TAtW w S C p s m vm va fs) : TAtW w (fun k => S k ∧ k < w.heap.size) C p s m vm va fs :=
 ⟨h.B, h.M, h.V, h.A, h.Fl, h.F, ⟨h.sp, h.B.lt⟩, ⟨h.sm, h.M.lt⟩, fun k e => ⟨h.sv k e, row_bl h.V e⟩, fun k e => ⟨h.sa k e, row_bl h.A e⟩, fun k hc hs => h.dj k hc hs.1, h.cl, h.ok⟩
theorem TAtW.capt {C' : Nat → Prop} (h : TAtW w S C p s m vm va fs) (hC : ∀ k, C k → C' k) (hd : ∀ k, C' k → ¬ S k) (hl : ∀ k, C' k → k < w.heap.size) : TAtW w S C' p s m vm va fs :=
 ⟨h.B, h.M, h.V, h.A, h.Fl, fun i a f e1 e2 => (h.F i a f e1 e2).mono hC, h.sp, h.sm, h.sv, h.sa, hd, hl, h.ok⟩
theorem Has.of (h : TAt w S C p s) (h1 : ∀ k, S k → B ≤ k) (h2 : ∀ k, C k → B ≤ k) : Has B w p s := by
 obtain ⟨m, vm, va, fs, h⟩ := h
 exact ⟨_, C, ⟨m, vm, va, fs, h.trim⟩, fun k hk => ⟨h1 k hk.1, hk.2⟩, h2⟩
theorem Has.base (h : Has B w p s) : B ≤ w.heap.size := by
 obtain ⟨S, C, ⟨m, vm, va, fs, h⟩, h1, _⟩ := h
 have := h1 p h.sp
 omega
theorem Has.ok (h : Has B w p s) : TOk s := by
 obtain ⟨S, C, ⟨m, vm, va, fs, h⟩, h1, _⟩ := h
 exact h.ok
theorem Has.below (h : Has B w p s) (hb : Below w.heap.size w w') : Has B w' p s := by
 obtain ⟨S, C, h, h1, h2⟩ := h
 exact ⟨S, C, h.below hb, fun k hk => ⟨(h1 k hk).1, Nat.lt_of_lt_of_le (h1 k hk).2 hb.size⟩, h2⟩
theorem Has.cell3 (h : Has B w p s) : w.cell? ⟨p, 3, none⟩ = some (.int .i64 s.ps) := by
 obtain ⟨S, C, ⟨m, vm, va, fs, h⟩, _⟩ := h
 exact h.B.cell 3 rfl
theorem Step.bel (h : Step w w' S) (h1 : ∀ k, S k → B ≤ k) (hB : B ≤ w.heap.size) : Below B w w' := h.below (Below.refl B w) hB h1
end
theorem Position_calls {B : Nat} {w : World} {p : Nat} {s : TS} (h : Has B w p s) : Calls Try.prog 19 #[.pointer (some ⟨p, 0, none⟩)] w fun e w' => e = .returned (.int .i64 s.ps) ∧ w' = w := by
 have hc := h.cell3
 clear h
 go_enter Try.func19, Try.ntmps19
 go_wp2
 go_ret
 exact ⟨rfl, rfl⟩
def newT (wt : Int) : TS := ⟨0, 0, 0, 0, wt, 0, false, [], [], 0, []⟩
theorem newT_ok {wt : Int} (h0 : 1 ≤ wt) (h1 : wt ≤ 1000) : TOk (newT wt) where
 p0 := Int.le_refl 0
 p1 := show (0 : Int) ≤ 1000000000 by decide
 b0 := Int.le_refl 0
 b1 := show (0 : Int) ≤ 1000000000 by decide
 e0 := Int.le_refl 0
 e1 := show (0 : Int) ≤ 1000000000 by decide
 be := .inl rfl
 s0 := Int.le_refl 0
 s1 := show (0 : Int) ≤ 2 by decide
 wt0 := h0
 wt1 := h1
 asc := List.Pairwise.nil
 key := fun q (h : q ∈ []) => by cases h
 ll := Nat.zero_le _
 ml := Nat.zero_le _
 al := Nat.zero_le _
 aok := fun a (h : a ∈ []) => by cases h
theorem nil_map (w : World) : MapAt (w.alloc (.map #[] 0)) w.heap.size [] := World.ownsMap_made w _ _ _
theorem nil_row (w : World) (t : TypeId) : w.ownsRow 0 t 1 (.slice none 0 0) 0 [] := ⟨rfl, .inl ⟨rfl, rfl⟩⟩
set_option maxRecDepth 100000 in
theorem New_calls {B : Nat} (w : World) (hB : B ≤ w.heap.size) (wt : Int) (h0 : 1 ≤ wt) (h1 : wt ≤ 1000) :
 Calls Try.prog 13 #[.int .i64 wt] w fun e w' => ∃ p, e = .returned (.tuple #[.pointer (some ⟨p, 0, none⟩), .int .i64 0]) ∧ Has B w' p (newT wt) ∧ Below B w w' := by
 have hmm := @run_makeMap Try.prog
 have hA : transport_within.f wt 1 1000 = some true := by unfold transport_within.f; rw [if_pos h0, decide_eq_true h1]
 go_enter Try.func13, Try.ntmps13
 go_wp2_with (go_at_call 38; (with_reducible refine (transport_within.calls wt 1 1000 true _ hA).mono ?_); rintro e w' ⟨rfl, ⟨nd, rfl⟩⟩)
 go_ret2
 have hb : Below w.heap.size w (((w.drewN nd).alloc (Obj.map #[] 0)).alloc (Obj.cells #[.int .i64 0, .int .i64 0, .int .i64 0, .int .i64 0, .int .i64 wt, .int .i64 0, .bool false, .map (some w.heap.size), .slice none 0 0, .int .i64 0, .slice none 0 0] 73)) :=
  ((pw_below_drewN (Below.refl _ _) _).alloc (by simp) _).alloc (by simp) _
 have hB1 : Blk (((w.drewN nd).alloc (Obj.map #[] 0)).alloc (Obj.cells #[.int .i64 0, .int .i64 0, .int .i64 0, .int .i64 0, .int .i64 wt, .int .i64 0, .bool false, .map (some w.heap.size), .slice none 0 0, .int .i64 0, .slice none 0 0] 73)) (w.heap.size + 1) (tcells (newT wt) w.heap.size (.slice none 0 0) (.slice none 0 0)) 73 := by
  have := Blk.new ((w.drewN nd).alloc (Obj.map #[] 0)) (tcells (newT wt) w.heap.size (.slice none 0 0) (.slice none 0 0)) 73
  have e : ((w.drewN nd).alloc (Obj.map #[] 0)).heap.size = w.heap.size + 1 := by simp
  rw [e] at this
  exact this
 refine ⟨_, rfl, Has.of (S := fun k => w.heap.size ≤ k) (C := fun _ => False) ⟨w.heap.size, .slice none 0 0, .slice none 0 0, [], ?_⟩ (fun k hk => Nat.le_trans hB hk) (fun k hk => hk.elim), hb.mono hB⟩
 exact {
  B := hB1
  M := (nil_map (w.drewN nd)).same (Below.heap_alloc _ _ _ (by simp))
  V := nil_row _ 3
  A := nil_row _ 75
  Fl := rfl
  F := fun i a f e1 e2 => by cases e2
  sp := Nat.le_succ _
  sm := Nat.le_refl _
  sv := fun k e => by simp [Value.ownBlock] at e
  sa := fun k e => by simp [Value.ownBlock] at e
  dj := fun k hk => hk.elim
  cl := fun k hk => hk.elim
  ok := newT_ok h0 h1 }
theorem Start_calls {B : Nat} {w : World} {p : Nat} {s : TS} (h : Has B w p s) (hl : s.aq.length < 10000) :
 Calls Try.prog 16 #[.pointer (some ⟨p, 0, none⟩)] w fun e w' => e = .returned (.int .i64 0) ∧ Has B w' p (askT s .start) ∧ Below B w w' := by
 have hB := h.base
 obtain ⟨S, C, ⟨m, vm, va, fs, h⟩, h1, h2⟩ := h
 have HA := Aside0.mk (ask_calls h .start (.func (.func 44) #[] #[]) rfl trivial hl)
 have HS1 := Aside0.mk h1
 have HS2 := Aside0.mk h2
 clear h h1 h2
 go_enter Try.func16, Try.ntmps16
 go_wp2_with (fail)
 refine HA.out.mono ?_
 rintro e w' ⟨rfl, ⟨va', fs', hT⟩, hS⟩
 have HT := Aside0.mk hT
 have HSt := Aside0.mk hS
 clear hT hS
 go_wp2
 go_ret
 exact ⟨rfl, Has.of ⟨_, _, _, _, HT.out⟩ (fun k hk => hk.elim (fun h => (HS1.out k h).1) (fun h => Nat.le_trans hB h)) HS2.out, HSt.out.bel (fun k hk => (HS1.out k hk).1) hB⟩
theorem TAtW.caps {w w' : World} {S C C' : Nat → Prop} {p : Nat} {s : TS} {m : Nat} {vm va : Value} {fs : List Value} (h : TAtW w S C p s m vm va fs) (hs : ∀ k, S k → k < w.heap.size) (hb : Below w.heap.size w w') (hC : ∀ k, C k → C' k) (hn : ∀ k, C' k → C k ∨ (w.heap.size ≤ k ∧ k < w'.heap.size)) : TAtW w' S C' p s m vm va fs :=
 (h.below hb).capt hC (fun k hc hk => (hn k hc).elim (fun hh => h.dj k hh hk) (fun hh => by have := hs k hk; omega)) (fun k hc => (hn k hc).elim (fun hh => Nat.lt_of_lt_of_le (h.cl k hh) hb.size) (fun hh => hh.2))
theorem Seek_calls {B : Nat} {w : World} {p : Nat} {s : TS} (h : Has B w p s) (hl : s.aq.length < 10000) (x : Int) (h0 : 0 ≤ x) (h1 : x ≤ 1000000000) :
 Calls Try.prog 14 #[.pointer (some ⟨p, 0, none⟩), .int .i64 x] w fun e w' => e = .returned (.int .i64 0) ∧ Has B w' p (askT s (.seek x)) ∧ Below B w w' := by
 have hB := h.base
 obtain ⟨S, C, ⟨m, vm, va, fs, h⟩, hs1, hs2⟩ := h
 have H := Aside0.mk h
 have HL := Aside0.mk hl
 have HS1 := Aside0.mk hs1
 have HS2 := Aside0.mk hs2
 have hA : transport_within.f x 0 1000000000 = some true := by rw [within_eq x 1000000000, decide_eq_true ⟨h0, h1⟩]
 have hmf : ∀ (fn : Fn) (first cap : Array Value) (w : World), (Instr.makeFunc fn first cap).run Try.prog w = .ok (.func fn first cap) w := fun _ _ _ _ => rfl
 clear h hl hs1 hs2
 go_enter Try.func14, Try.ntmps14
 go_wp2_with (go_at_call 38; (with_reducible refine (transport_within.calls x 0 1000000000 true _ hA).mono ?_); rintro e w' ⟨rfl, ⟨nd, rfl⟩⟩)
 have hbx : Below w.heap.size w ((w.alloc (Obj.cells #[.int .i64 x] 3)).drewN nd) := pw_below_drewN ((Below.refl _ w).alloc (Nat.le_refl _) _) _
 have hT := H.out.caps (C' := fun k => C k ∨ k = w.heap.size) (fun k hk => (HS1.out k hk).2) hbx (fun k => .inl) (fun k hk => hk.elim .inl (fun e => .inr ⟨by omega, by simp; omega⟩))
 refine (ask_calls hT (.seek x) (.func (.func 40) #[] #[.pointer (some ⟨w.heap.size, 0, none⟩)]) ⟨w.heap.size, rfl, bx_drewN _ (World.alloc_heap_new w _), .inr rfl⟩ ⟨h0, h1⟩ HL.out).mono ?_
 rintro e w' ⟨rfl, ⟨va', fs', hT'⟩, hS⟩
 have HT := Aside0.mk hT'
 have HSt := Aside0.mk hS
 have HBX := Aside0.mk hbx
 clear hT hT' hS hbx
 go_wp2
 go_ret
 have hsz : w.heap.size + 1 = ((w.alloc (Obj.cells #[.int .i64 x] 3)).drewN nd).heap.size := by simp
 exact ⟨rfl, Has.of ⟨_, _, _, _, HT.out⟩ (fun k hk => hk.elim (fun h => (HS1.out k h).1) (fun h => by omega)) (fun k hk => hk.elim (HS2.out k) (fun e => by omega)), (HBX.out.mono hB).trans (HSt.out.bel (fun k hk => (HS1.out k hk).1) (by omega))⟩
theorem looped_ok (k : Nat) (b e : Int) (hb : 0 ≤ b ∧ b ≤ 1000000000) (he : 0 ≤ e ∧ e ≤ 1000000000) (hl : e = 0 ∧ b = 0 ∨ b < e) (w : World) : Calls Try.prog 42 #[.int .i64 b, .int .i64 e] w fun ee w' => ee = .returned (.int .i64 0) ∧ Drawn0 w w' := by
 refine transport_looped.calls 1 b e 0 w ?_
 rw [looped_eq b e hb he, if_neg (by omega)]
theorem Loop_calls {B : Nat} {w : World} {p : Nat} {s : TS} (h : Has B w p s) (hl : s.aq.length < 10000) (x y : Int) (h0 : 0 ≤ x ∧ x ≤ 1000000000) (h1 : 0 ≤ y ∧ y ≤ 1000000000) (h2 : y = 0 ∧ x = 0 ∨ x < y) :
 Calls Try.prog 15 #[.pointer (some ⟨p, 0, none⟩), .int .i64 x, .int .i64 y] w fun e w' => e = .returned (.int .i64 0) ∧ Has B w' p (askT s (.loop x y)) ∧ Below B w w' := by
 have hB := h.base
 obtain ⟨S, C, ⟨m, vm, va, fs, h⟩, hs1, hs2⟩ := h
 have H := Aside0.mk h
 have HL := Aside0.mk hl
 have HS1 := Aside0.mk hs1
 have HS2 := Aside0.mk hs2
 have HLP := fun w => Lib.hid (looped_ok 1 x y h0 h1 h2 w)
 have HOK := Aside0.mk (show askOk (.loop x y) from ⟨h0.1, h0.2, h1.1, h1.2, by omega⟩)
 have hmf : ∀ (fn : Fn) (first cap : Array Value) (w : World), (Instr.makeFunc fn first cap).run Try.prog w = .ok (.func fn first cap) w := fun _ _ _ _ => rfl
 clear h hl hs1 hs2 h0 h1 h2
 go_enter Try.func15, Try.ntmps15
 go_wp2_with (go_at_call 42; (refine (HLP _).out.mono ?_); rintro e w' ⟨rfl, ⟨nd, rfl⟩⟩)
 have hbx : Below w.heap.size w (((w.alloc (Obj.cells #[.int .i64 x] 3)).alloc (Obj.cells #[.int .i64 y] 3)).drewN nd) := pw_below_drewN (((Below.refl _ w).alloc (Nat.le_refl _) _).alloc (by simp) _) _
 have hT := H.out.caps (C' := fun k => C k ∨ k = w.heap.size ∨ k = w.heap.size + 1) (fun k hk => (HS1.out k hk).2) hbx (fun k => .inl) (fun k hk => hk.elim .inl (fun e => .inr ⟨by omega, by simp; omega⟩))
 have hx1 : Boxed ((w.alloc (Obj.cells #[.int .i64 x] 3)).alloc (Obj.cells #[.int .i64 y] 3)) w.heap.size 3 (.int .i64 x) := (Below.heap_alloc _ _ _ (by simp)).trans (World.alloc_heap_new w _)
 have hx2 : Boxed ((w.alloc (Obj.cells #[.int .i64 x] 3)).alloc (Obj.cells #[.int .i64 y] 3)) (w.heap.size + 1) 3 (.int .i64 y) := by
  have := World.alloc_heap_new (w.alloc (Obj.cells #[.int .i64 x] 3)) (Obj.cells #[.int .i64 y] 3)
  rw [World.size_alloc] at this
  exact this
 refine (ask_calls hT (.loop x y) (.func (.func 43) #[] #[.pointer (some ⟨w.heap.size, 0, none⟩), .pointer (some ⟨w.heap.size + 1, 0, none⟩)]) ⟨w.heap.size, w.heap.size + 1, rfl, bx_drewN _ hx1, bx_drewN _ hx2, .inr (.inl rfl), .inr (.inr rfl)⟩ HOK.out HL.out).mono ?_
 rintro e w' ⟨rfl, ⟨va', fs', hT'⟩, hS⟩
 have HT := Aside0.mk hT'
 have HSt := Aside0.mk hS
 have HBX := Aside0.mk hbx
 clear hT hT' hS hbx hx1 hx2
 go_wp2
 go_ret
 have hsz : w.heap.size + 2 = (((w.alloc (Obj.cells #[.int .i64 x] 3)).alloc (Obj.cells #[.int .i64 y] 3)).drewN nd).heap.size := by simp
 exact ⟨rfl, Has.of ⟨_, _, _, _, HT.out⟩ (fun k hk => hk.elim (fun h => (HS1.out k h).1) (fun h => by omega)) (fun k hk => hk.elim (HS2.out k) (fun e => by omega)), (HBX.out.mono hB).trans (HSt.out.bel (fun k hk => (HS1.out k hk).1) (by omega))⟩
end Go.Proofs.Ytlffhagjpfcecaa.PA



namespace Go.Proofs.Ytlffhagjpfcecaa.PA
open Go.RowKit Go.Maps Go.Shelf Go.Sort Go.Proofs.YtlffhagjpfcecaaW.PrintWords Go.Proofs.YtlffhagjpfcecaaW.PrintLast Go.Proofs.YtlffhagjpfcecaaW.PrintMore
set_option linter.unusedVariables false
set_option linter.unusedSimpArgs false
structure Fresh (wt : Int) (s : TS) : Prop where
 bg : s.bg = 0
 en : s.en = 0
 st : s.st = 0
 ps : s.ps = 0
 wt : s.wt = wt
 fr : s.fr = false
 aq : s.aq = []
structure Mid (wt : Int) (i n : Nat) (s : TS) : Prop where
 aq : s.aq = []
 bg : s.bg = 0
 en : s.en = 0
 fr : s.fr = false
 wz : s.wt = wt
 p0 : 0 ≤ s.ps
 p1 : s.ps ≤ i
 or : (s.st = 1 ∧ s.wd = i ∧ n = i ∧ (i : Int) ≤ wt) ∨ (s.st = 2 ∧ n ≤ i ∧ (n : Int) ≤ wt)
end Go.Proofs.Ytlffhagjpfcecaa.PA

namespace Go.Proofs.Ytlffhagjpfcecaa.PA
open Go.RowKit Go.Maps Go.Shelf Go.Sort Go.Proofs.YtlffhagjpfcecaaW.PrintWords Go.Proofs.YtlffhagjpfcecaaW.PrintLast Go.Proofs.YtlffhagjpfcecaaW.PrintMore
set_option linter.unusedVariables false
set_option linter.unusedSimpArgs false
def wrp (e x : Int) : Prop := 0 < e ∧ x < e ∧ x + 1 = e
instance (e x : Int) : Decidable (wrp e x) := by unfold wrp; exact inferInstance
def nx (b e x : Int) : Int := if wrp e x then b else x + 1
def it (b e : Int) : Nat → Int → Int
 | 0, x => x
 | k + 1, x => it b e k (nx b e x)
def wr (b e : Int) : Nat → Int → Nat
 | 0, _ => 0
 | k + 1, x => (if wrp e x then 1 else 0) + wr b e k (nx b e x)
def trk (b e : Int) : Nat → Int → List Int
 | 0, _ => []
 | k + 1, x => x :: trk b e k (nx b e x)
def spanF (x : Int × Int) : List Int := (List.range x.2.toNat).map fun (k : Nat) => x.1 + (k : Int)
def frs (l : List (Int × Int)) : List Int := l.flatMap spanF
section
variable {b e : Int}
theorem it_add : ∀ (j k : Nat) (x : Int), it b e (j + k) x = it b e k (it b e j x)
 | 0, k, x => by rw [Nat.zero_add]; rfl
 | j + 1, k, x => by rw [Nat.add_right_comm]; exact it_add j k (nx b e x)
theorem wr_add : ∀ (j k : Nat) (x : Int), wr b e (j + k) x = wr b e j x + wr b e k (it b e j x)
 | 0, k, x => by rw [Nat.zero_add]; show _ = 0 + _; rw [Nat.zero_add]; rfl
 | j + 1, k, x => by
  rw [Nat.add_right_comm]
  show _ + wr b e (j + k) (nx b e x) = (_ + wr b e j (nx b e x)) + wr b e k (it b e j (nx b e x))
  rw [wr_add j k, Nat.add_assoc]
theorem trk_add : ∀ (j k : Nat) (x : Int), trk b e (j + k) x = trk b e j x ++ trk b e k (it b e j x)
 | 0, k, x => by rw [Nat.zero_add]; rfl
 | j + 1, k, x => by
  rw [Nat.add_right_comm]
  show x :: trk b e (j + k) (nx b e x) = x :: (trk b e j (nx b e x) ++ trk b e k (it b e j (nx b e x)))
  rw [trk_add j k]
theorem straight : ∀ (n : Nat) (x : Int), (∀ j : Nat, j < n → ¬ wrp e (x + j)) → it b e n x = x + n ∧ wr b e n x = 0 ∧ trk b e n x = (List.range n).map fun (k : Nat) => x + (k : Int)
 | 0, x, _ => ⟨by show x = x + ((0 : Nat) : Int); omega, rfl, rfl⟩
 | n + 1, x, h => by
  have h0 : ¬ wrp e x := by have := h 0 (by omega); simpa using this
  have hx : nx b e x = x + 1 := by unfold nx; rw [if_neg h0]
  have hst : ∀ j : Nat, j < n → ¬ wrp e (x + 1 + j) := by
   intro j hj
   have hj1 := h (j + 1) (by omega)
   have e1 : x + ((j + 1 : Nat) : Int) = x + 1 + j := by omega
   rw [e1] at hj1
   exact hj1
  obtain ⟨a1, a2, a3⟩ := straight n (x + 1) hst
  refine ⟨?_, ?_, ?_⟩
  · show it b e n (nx b e x) = _
    rw [hx, a1]
    omega
  · show (if wrp e x then 1 else 0) + wr b e n (nx b e x) = 0
    rw [hx, a2, if_neg h0]
  · show x :: trk b e n (nx b e x) = _
    rw [hx, a3, List.range_succ_eq_map, List.map_cons, List.map_map]
    congr 1
    · simp
    · apply List.map_congr_left
      intro k _
      simp only [Function.comp]
      omega
theorem cnt_pos {p fr : Int} (h : 0 < fr) : 1 ≤ cntN e p fr ∧ cntN e p fr ≤ fr := by
 unfold cntN
 split
 · split <;> omega
 · omega
theorem one_span {p fr : Int} (h : 0 < fr) : it b e (cntN e p fr).toNat p = nxtP b e p fr ∧ trk b e (cntN e p fr).toNat p = spanF (p, cntN e p fr) ∧ wr b e ((cntN e p fr).toNat - 1) p = 0 ∧ (cntN e p fr < fr → wr b e (cntN e p fr).toNat p = 1) := by
 obtain ⟨h1, h2⟩ := cnt_pos (e := e) (p := p) h
 obtain ⟨n, hn⟩ : ∃ n : Nat, cntN e p fr = (n : Int) + 1 := ⟨(cntN e p fr - 1).toNat, by omega⟩
 have hs : ∀ j : Nat, j < n → ¬ wrp e (p + j) := by
  intro j hj hw
  unfold wrp at hw
  have hc : cntN e p fr ≤ e - p := by
   unfold cntN
   rw [if_pos ⟨hw.1, by omega⟩]
   split <;> omega
  omega
 obtain ⟨a1, a2, a3⟩ := straight (b := b) n p hs
 have ht : (cntN e p fr).toNat = n + 1 := by omega
 have hlast : wrp e (p + n) ↔ ((0 < e ∧ p < e) ∧ p + cntN e p fr = e) := by
  unfold wrp
  constructor
  · rintro ⟨q1, q2, q3⟩; exact ⟨⟨q1, by omega⟩, by omega⟩
  · rintro ⟨⟨q1, q2⟩, q3⟩; exact ⟨q1, by omega, by omega⟩
 rw [ht]
 refine ⟨?_, ?_, by rw [Nat.add_sub_cancel]; exact a2, ?_⟩
 · rw [it_add n 1, a1]
   show nx b e (p + n) = _
   unfold nx nxtP
   by_cases hw : wrp e (p + n)
   · rw [if_pos hw, if_pos (hlast.1 hw)]
   · rw [if_neg hw, if_neg (fun q => hw (hlast.2 q)), hn]
     omega
 · rw [trk_add n 1, a1, a3]
   unfold spanF
   rw [ht, List.range_succ, List.map_append]
   rfl
 · intro hlt
   rw [wr_add n 1, a1, a2]
   show 0 + ((if wrp e (p + n) then 1 else 0) + 0) = 1
   have hp : ¬ (0 < e ∧ p < e) → False := by
    intro hh
    unfold cntN at hlt
    rw [if_neg hh] at hlt
    omega
   have hq : 0 < e ∧ p < e := Classical.byContradiction hp
   have hce : cntN e p fr = e - p := by
    unfold cntN at hlt ⊢
    rw [if_pos hq] at hlt ⊢
    split
    · rfl
    · rename_i hx; rw [if_neg hx] at hlt; omega
   rw [if_pos (hlast.2 ⟨hq, by omega⟩)]
theorem parts_all : ∀ (k : Nat) (p fr : Int), 0 ≤ fr → fr.toNat ≤ k → frs (partsL b e k p fr) = trk b e fr.toNat p ∧ endP b e k p fr = it b e fr.toNat p ∧ (partsL b e k p fr).length = if fr = 0 then 0 else wr b e (fr.toNat - 1) p + 1
 | 0, p, fr, h0, hk => by
  have : fr = 0 := by omega
  subst this
  exact ⟨rfl, rfl, rfl⟩
 | k + 1, p, fr, h0, hk => by
  by_cases h : 0 < fr
  · obtain ⟨h1, h2⟩ := cnt_pos (e := e) (p := p) h
    obtain ⟨s1, s2, s3, s4⟩ := one_span (b := b) (e := e) (p := p) h
    obtain ⟨r1, r2, r3⟩ := parts_all k (nxtP b e p fr) (fr - cntN e p fr) (by omega) (by omega)
    have hf : fr.toNat = (cntN e p fr).toNat + (fr - cntN e p fr).toNat := by omega
    have hp : partsL b e (k + 1) p fr = (p, cntN e p fr) :: partsL b e k (nxtP b e p fr) (fr - cntN e p fr) := by
     show (if 0 < fr then _ else _) = _
     rw [if_pos h]
    have he : endP b e (k + 1) p fr = endP b e k (nxtP b e p fr) (fr - cntN e p fr) := by
     show (if 0 < fr then _ else _) = _
     rw [if_pos h]
    refine ⟨?_, ?_, ?_⟩
    · rw [hp, hf, trk_add, s1, s2, ← r1]
      rfl
    · rw [he, hf, it_add, s1, r2]
    · rw [hp, List.length_cons, r3, if_neg (show ¬ fr = 0 by omega)]
      by_cases hc : cntN e p fr = fr
      · rw [if_pos (show fr - cntN e p fr = 0 by omega), show fr.toNat - 1 = (cntN e p fr).toNat - 1 by omega, s3]
      · rw [if_neg (show ¬ fr - cntN e p fr = 0 by omega)]
        have hf2 : fr.toNat - 1 = (cntN e p fr).toNat + ((fr - cntN e p fr).toNat - 1) := by omega
        rw [hf2, wr_add, s1, s4 (by omega)]
        omega
  · have : fr = 0 := by omega
    subst this
    have hp : partsL b e (k + 1) p 0 = [] := by show (if (0 : Int) < 0 then _ else _) = _; rw [if_neg (by omega)]
    have he : endP b e (k + 1) p 0 = p := by show (if (0 : Int) < 0 then _ else _) = _; rw [if_neg (by omega)]
    rw [hp, he]
    exact ⟨rfl, rfl, rfl⟩
theorem wr_mono {j k : Nat} (h : j ≤ k) (x : Int) : wr b e j x ≤ wr b e k x := by
 obtain ⟨d, rfl⟩ := Nat.le.dest h
 rw [wr_add]
 exact Nat.le_add_right _ _
theorem wr_end (j k : Nat) (x : Int) : wr b e k (it b e j x) ≤ wr b e (j + k) x := by
 rw [wr_add]
 exact Nat.le_add_left _ _
theorem part_len {p : Int} {S f1 f2 : Nat} (hS : f1 + f2 ≤ S) (h : (partsL b e S p S).length ≤ 100) : (partsL b e f2 (it b e f1 p) f2).length ≤ 100 := by
 obtain ⟨_, _, h3⟩ := parts_all (b := b) (e := e) S p S (by omega) (by simp)
 obtain ⟨_, _, g3⟩ := parts_all (b := b) (e := e) f2 (it b e f1 p) f2 (by omega) (by simp)
 rw [h3] at h
 rw [g3]
 by_cases hf : (f2 : Int) = 0
 · rw [if_pos hf]; omega
 · rw [if_neg hf]
   rw [if_neg (by omega)] at h
   have a1 := wr_end (b := b) (e := e) f1 ((f2 : Int).toNat - 1) p
   have a2 := wr_mono (b := b) (e := e) (j := f1 + ((f2 : Int).toNat - 1)) (k := (S : Int).toNat - 1) (by omega) p
   omega
theorem it_le (hbe : e = 0 ∨ b < e) {M : Int} (hM : e ≤ M) : ∀ (k m : Nat) (x : Int), it b e (k + m) x ≤ M → it b e k x ≤ M := by
 intro k m
 induction m with
 | zero => intro x h; exact h
 | succ m ih =>
  intro x h
  rw [← Nat.add_assoc, it_add (k + m) 1] at h
  apply ih
  have h' : nx b e (it b e (k + m) x) ≤ M := h
  unfold nx at h'
  split at h'
  · rename_i hw
    have := hw.2.1
    omega
  · omega
theorem it_nonneg (hb : 0 ≤ b) : ∀ (k : Nat) (x : Int), 0 ≤ x → 0 ≤ it b e k x
 | 0, x, h => h
 | k + 1, x, h => it_nonneg hb k _ (by unfold nx; split <;> omega)
end
end Go.Proofs.Ytlffhagjpfcecaa.PA

namespace Go.Proofs.Ytlffhagjpfcecaa.PA
open Go.RowKit Go.Maps Go.Shelf Go.Sort Go.Proofs.YtlffhagjpfcecaaW.PrintWords Go.Proofs.YtlffhagjpfcecaaW.PrintLast Go.Proofs.YtlffhagjpfcecaaW.PrintMore
set_option linter.unusedVariables false
set_option linter.unusedSimpArgs false
def HasS (B : Nat) (S : Nat → Prop) (w : World) (p : Nat) (s : TS) : Prop := ∃ S0 C, TAt w S0 C p s ∧ (∀ k, S0 k → S k) ∧ (∀ k, C k → S k) ∧ (∀ k, S k → B ≤ k ∧ k < w.heap.size)
theorem Has.open {B : Nat} {w : World} {p : Nat} {s : TS} (h : Has B w p s) : ∃ S, HasS B S w p s := by
 obtain ⟨S, C, ⟨m, vm, va, fs, h⟩, h1, h2⟩ := h
 exact ⟨fun k => S k ∨ C k, S, C, ⟨m, vm, va, fs, h⟩, fun k => .inl, fun k => .inr, fun k hk => hk.elim (h1 k) (fun hc => ⟨h2 k hc, h.cl k hc⟩)⟩
theorem HasS.shut {B : Nat} {S : Nat → Prop} {w : World} {p : Nat} {s : TS} (h : HasS B S w p s) : Has B w p s := by
 obtain ⟨S0, C, h, h1, h2, h3⟩ := h
 exact ⟨S0, C, h, fun k hk => h3 k (h1 k hk), fun k hk => (h3 k (h2 k hk)).1⟩
theorem HasS.kept {B : Nat} {S G : Nat → Prop} {w w' : World} {p : Nat} {s : TS} (h : HasS B S w p s) (hk : Kept w w' G) (hb : ∀ k, S k → ¬ G k) : HasS B S w' p s := by
 obtain ⟨S0, C, ⟨m, vm, va, fs, h⟩, h1, h2, h3⟩ := h
 exact ⟨S0, C, ⟨m, vm, va, fs, h.kept hk (fun k hs => hb k (h1 k hs)) (fun k hc => hb k (h2 k hc))⟩, h1, h2, fun k hs => ⟨(h3 k hs).1, Nat.lt_of_lt_of_le (h3 k hs).2 hk.1⟩⟩
theorem Cycle_hasS {B : Nat} {S : Nat → Prop} {w : World} {p : Nat} {s s' : TS} {l : List S39} (h : HasS B S w p s) (hB : B ≤ w.heap.size) (fr : Int) (hf0 : 0 ≤ fr) (hf1 : fr ≤ 4096) (hc : cycM s fr = some (l, s')) :
 Calls Try.prog 17 #[.pointer (some ⟨p, 0, none⟩), .int .i64 fr] w fun e w' => ∃ v S', e = .returned (.tuple #[v, .int .i64 0]) ∧ w'.ownsRow w.heap.size 39 3 v l.length (fl39 l) ∧ HasS B S' w' p s' ∧ (∀ k, S' k → S k ∨ w.heap.size ≤ k) ∧ Step w w' S := by
 obtain ⟨S0, C, h, h1, h2, h3⟩ := h
 refine (Cycle_calls h (fun k hk => (h3 k (h1 k hk)).2) fr hf0 hf1 hc).mono ?_
 rintro e w' ⟨v, rfl, hr, ⟨m, vm, va, fs, hT⟩, hS⟩
 have hS' : Step w w' S := ⟨hS.os, hS.tape, hS.output, hS.kept.1, fun k hk hn => hS.kept.2 k hk (fun hh => hn (h1 k hh))⟩
 refine ⟨v, fun k => (S k ∨ w.heap.size ≤ k) ∧ k < w'.heap.size, rfl, hr, ⟨fun k => Sx w S0 k ∧ k < w'.heap.size, C, ⟨m, vm, va, fs, hT.trim⟩, fun k hk => ⟨hk.1.imp (h1 k) id, hk.2⟩, fun k hk => ⟨.inl (h2 k hk), hT.cl k hk⟩, fun k hk => ⟨hk.1.elim (fun hh => (h3 k hh).1) (fun hh => Nat.le_trans hB hh), hk.2⟩⟩, fun k hk => hk.1, hS'⟩
def pre (cs : List Int) (i : Nat) : Nat := ((cs.take i).map Int.toNat).sum
theorem pre_succ {cs : List Int} {i : Nat} (h : i < cs.length) : pre cs (i + 1) = pre cs i + cs[i].toNat := by
 unfold pre
 rw [List.take_succ_eq_append_getElem h, List.map_append, List.sum_append]
 simp
theorem sum_take_le : ∀ (l : List Nat) (i : Nat), (l.take i).sum ≤ l.sum
 | [], i => by simp
 | a :: l, 0 => by simp
 | a :: l, i + 1 => by
  have := sum_take_le l i
  simp only [List.take_succ_cons, List.sum_cons]
  omega
theorem pre_le (cs : List Int) (i : Nat) : pre cs i ≤ pre cs cs.length := by
 unfold pre
 rw [List.take_length, List.map_take]
 exact sum_take_le _ _
structure CutH (p b e : Int) (cs : List Int) : Prop where
 p0 : 0 ≤ p
 p1 : p ≤ 1000000000
 b0 : 0 ≤ b
 b1 : b ≤ 1000000000
 e0 : 0 ≤ e
 e1 : e ≤ 1000000000
 be : e = 0 ∧ b = 0 ∨ b < e
 c0 : ∀ c ∈ cs, 0 ≤ c ∧ c ≤ 200
 ln : (partsL b e (pre cs cs.length) p (pre cs cs.length)).length ≤ 100
 en : it b e (pre cs cs.length) p ≤ 1000000000
def ask3 (p b e : Int) : TS := askT (askT (askT (newT 1) (.seek p)) (.loop b e)) .start
structure CutM (p b e : Int) (cs : List Int) (i : Nat) (s : TS) : Prop where
 aq : s.aq = []
 st : s.st = 2
 bg : s.bg = b
 en : s.en = e
 ps : s.ps = it b e (pre cs i) p
def CutI (p b e : Int) (cs : List Int) (i : Nat) (s : TS) : Prop := (i = 0 ∧ s = ask3 p b e) ∨ CutM p b e cs i s
theorem cut_step {p b e : Int} {cs : List Int} (H : CutH p b e cs) {i : Nat} (hi : i < cs.length) {s : TS} (h : CutI p b e cs i s) :
 ∃ s', cycM s cs[i] = some ((partsL b e cs[i].toNat (it b e (pre cs i) p) cs[i]).map mkS, s') ∧ CutM p b e cs (i + 1) s' := by
 have hc := H.c0 cs[i] (List.getElem_mem _)
 have key : ∃ s2, waitM (clearM (asksDo s.aq s)) = s2 ∧ s2.aq = [] ∧ s2.st = 2 ∧ s2.bg = b ∧ s2.en = e ∧ s2.ps = it b e (pre cs i) p := by
  rcases h with ⟨rfl, rfl⟩ | hM
  · exact ⟨_, rfl, rfl, rfl, rfl, rfl, rfl⟩
  · refine ⟨_, rfl, ?_⟩
    have e1 : asksDo s.aq s = s := by rw [hM.aq]; rfl
    rw [e1]
    unfold waitM clearM
    simp only
    rw [if_neg (by rw [hM.st]; decide)]
    exact ⟨rfl, hM.st, hM.bg, hM.en, hM.ps⟩
 obtain ⟨s2, e2, k1, k2, k3, k4, k5⟩ := key
 have hle : pre cs i + cs[i].toNat ≤ pre cs cs.length := by rw [← pre_succ hi]; exact pre_le cs (i + 1)
 have hcz : ((cs[i].toNat : Nat) : Int) = cs[i] := by omega
 have hl : (partsL b e cs[i].toNat (it b e (pre cs i) p) cs[i]).length ≤ 100 := by
  have := part_len (b := b) (e := e) (p := p) hle H.ln
  rw [hcz] at this
  exact this
 obtain ⟨_, q2, _⟩ := parts_all (b := b) (e := e) cs[i].toNat (it b e (pre cs i) p) cs[i] hc.1 (Nat.le_refl _)
 have hE : rollE s2 cs[i] = it b e (pre cs (i + 1)) p := by
  unfold rollE
  rw [k3, k4, k5, q2, ← it_add, pre_succ hi]
 have hok : rollOk s2 cs[i] := by
  refine ⟨by rw [k3, k4, k5]; exact hl, ?_⟩
  rw [hE]
  obtain ⟨d, hd⟩ := Nat.le.dest (pre_le cs (i + 1))
  exact it_le (H.be.imp (fun h => h.1) id) H.e1 _ d p (by rw [hd]; exact H.en)
 refine ⟨{ s2 with ps := rollE s2 cs[i], cy := wrap64 (s2.cy + 1) }, ?_, ⟨k1, k2, k3, k4, hE⟩⟩
 unfold cycM
 rw [e2]
 unfold outM
 rw [if_pos k2, if_pos hok]
 unfold rollL
 rw [k3, k4, k5]
theorem parts_pos {b e : Int} : ∀ (k : Nat) (p fr : Int), ∀ x ∈ partsL b e k p fr, 1 ≤ x.2
 | 0, p, fr, x, h => by cases h
 | k + 1, p, fr, x, h => by
  have h' : x ∈ (if 0 < fr then (p, cntN e p fr) :: partsL b e k (nxtP b e p fr) (fr - cntN e p fr) else []) := h
  split at h'
  · rename_i hf
    rcases List.mem_cons.1 h' with h' | h'
    · rw [h']; exact (cnt_pos hf).1
    · exact parts_pos k _ _ x h'
  · cases h'
end Go.Proofs.Ytlffhagjpfcecaa.PA

namespace Go.Proofs.Ytlffhagjpfcecaa.PA
open Go.RowKit Go.Proofs.YtlffhagjpfcecaaW.PrintWords Go.Proofs.YtlffhagjpfcecaaW.PrintLast Go.Proofs.YtlffhagjpfcecaaW.PrintMore
attribute [local go_sem] max2_int min2_int max_two min_two max_three min_three max_four min_four
set_option linter.unusedVariables false
set_option linter.unusedSimpArgs false
end Go.Proofs.Ytlffhagjpfcecaa.PA

namespace Go.Proofs.Ytlffhagjpfcecaa.PA
open Go.RowKit Go.Proofs.YtlffhagjpfcecaaW.PrintWords Go.Proofs.YtlffhagjpfcecaaW.PrintLast Go.Proofs.YtlffhagjpfcecaaW.PrintMore
attribute [local go_sem] max2_int min2_int max_two min_two max_three min_three max_four min_four
set_option linter.unusedVariables false
set_option linter.unusedSimpArgs false
def transport_Spans.f (a0 : Int) (a1 : Int) (a2 : Int) (a3 : Int) : Option ((List (S39)) × Int) := (transport_both.f a0 a1 a2 a3).bind fun bt104 => (some (bt104.1, bt104.2.2))
set_option maxHeartbeats 8000000 in
set_option maxRecDepth 100000 in
theorem transport_Spans.calls (a0 : Int) (a1 : Int) (a2 : Int) (a3 : Int) (r1 : List (S39)) (r2 : Int) (w : World) (h : transport_Spans.f a0 a1 a2 a3 = some (r1, r2)) :
 Calls Try.prog 7 #[.int .i64 a0, .int .i64 a1, .int .i64 a2, .int .i64 a3] w fun e w' => ∃ v0_ : Value, e = .returned (.tuple #[v0_, .int .i64 r2]) ∧ Kd.R k39 39 w' w.heap.size (fun _ => True) v0_ r1 ∧ Below w.heap.size w w' := by
 have HB := Aside0.mk (Below.refl w.heap.size w)
 have H : ((transport_both.f a0 a1 a2 a3).bind fun bt104 => (some (bt104.1, bt104.2.2))) = some (r1, r2) := h
 clear h
 replace H := Option.bind_eq_some_iff.mp H
 obtain ⟨⟨t104, t105, t106⟩, A50, H⟩ := H
 replace H : (some (t104, t106)) = some (r1, r2) := H
 have A5 := Aside0.mk A50
 clear A50
 simp only [Option.some.injEq, Prod.mk.injEq] at H
 obtain ⟨rfl, rfl⟩ := H
 go_enter Try.func7, Try.ntmps7
 go_wp2_with (first | ((with_reducible refine gate_callee (f := 36) rfl ?_); refine goesL_ (some 18) rfl rfl Try.func36 (by kernel_rfl) rfl #[.int .i64 a0, .int .i64 a1, .int .i64 a2, .int .i64 a3] rfl (by (try simp only [List.map_toArray, List.map_cons, List.map_nil]); first | done | rfl | (simp only [List.length_drop, List.length_take]; rfl)) ?_; (with_reducible refine (transport_both.calls a0 a1 a2 a3 t104 t105 t106 _ A5.out).mono ?_); rintro e w6 ⟨v107, rfl, ho0, hb⟩; refine ⟨_, rfl, ?_⟩; have n0_ := Aside0.mk (Kd.R_lower ho0 (below_size (by repeat (first | (with_reducible first | exact HB.out | apply below_alloc | apply pw_below_drewN | apply below_drew1) | exact HB.out)))); have n1_ := Aside0.mk (below_step (by repeat (first | (with_reducible first | exact HB.out | apply below_alloc | apply pw_below_drewN | apply below_drew1) | exact HB.out)) hb); clear HB; have HO108 := n0_; have HB := n1_; clear n0_ n1_; (try clear hb); (try clear hb2); (try clear hk); (try clear hi); (try clear ho0)))
 go_ret2
 exact ⟨_, by first | rfl | (simp [errW_none, errW_some] <;> rfl) | (simp [*, errW_none, errW_some] <;> rfl), by (with_reducible repeat (first | apply Kd.R_alloc | apply Kd.R_drewN | apply Kd.R_drew)); exact HO108.out, by repeat (first | (with_reducible first | exact HB.out | apply below_alloc | apply pw_below_drewN | apply below_drew1) | exact HB.out)⟩
end Go.Proofs.Ytlffhagjpfcecaa.PA

namespace Go.Proofs.Ytlffhagjpfcecaa.PA
open Go.RowKit Go.Proofs.YtlffhagjpfcecaaW.PrintWords Go.Proofs.YtlffhagjpfcecaaW.PrintLast Go.Proofs.YtlffhagjpfcecaaW.PrintMore
attribute [local go_sem] max2_int min2_int max_two min_two max_three min_three max_four min_four
set_option linter.unusedVariables false
set_option linter.unusedSimpArgs false
theorem eqA39 (d : Nat) (w : World) (x0 y0 : Int) (x1 y1 : Int) (x2 y2 : Bool) :
 (Op.equalIn (d + 2) 39 (.agg #[.int .i64 x0, .int .i64 x1, .bool x2]) (.agg #[.int .i64 y0, .int .i64 y1, .bool y2])).run Try.prog w = .ok (x0 == y0 && (x1 == y1 && (x2 == y2))) w := by
 refine eqA_of Try.underlying39 (by kernel_rfl) ?_
 refine eqf_cons (by rfl) (by go_simp; rfl) (by go_simp; rfl) (by go_simp) ?_
 refine eqf_cons (by rfl) (by go_simp; rfl) (by go_simp; rfl) (by go_simp) ?_
 exact eqf_last (by rfl) (by go_simp; rfl) (by go_simp; rfl) (by go_simp)
end Go.Proofs.Ytlffhagjpfcecaa.PA

namespace Go.Proofs.Ytlffhagjpfcecaa.PA
open Go.RowKit Go.Proofs.YtlffhagjpfcecaaW.PrintWords Go.Proofs.YtlffhagjpfcecaaW.PrintLast Go.Proofs.YtlffhagjpfcecaaW.PrintMore
attribute [local go_sem] max2_int min2_int max_two min_two max_three min_three max_four min_four
set_option linter.unusedVariables false
set_option linter.unusedSimpArgs false
attribute [local go_sem high] eqA39
def continuoref15_Same.l0 : Nat → List (S39) → List (S39) → Int → Option (Bool)
 | 0, _, _, _ => none
 | k + 1, x0, x1, x5 => if x5 < (x0.length : Int) then (if 0 ≤ x5 then (if x5 < (x1.length : Int) then (if (!(((rd_T39 x0 x5).f0) == ((rd_T39 x1 x5).f0)) || (!(((rd_T39 x0 x5).f1) == ((rd_T39 x1 x5).f1)) || (!(((rd_T39 x0 x5).f2) == ((rd_T39 x1 x5).f2))))) = true then (some false) else (continuoref15_Same.l0 k x0 x1 (wrap64 (x5 + 1)))) else (none)) else (none)) else (some true)
def continuoref15_Same.f (k : Nat) (l0 : List (S39)) (l1 : List (S39)) : Option (Bool) := if (l0.length : Int) = (l1.length : Int) then (continuoref15_Same.l0 k l0 l1 0) else (some false)
theorem continuoref15_Same.mono_l : ∀ k, (∀ y0 y1 y2, LeO (continuoref15_Same.l0 k y0 y1 y2) (continuoref15_Same.l0 (k + 1) y0 y1 y2))
 | 0 => fun _ _ _ r h => by simp [continuoref15_Same.l0] at h
 | k + 1 => by
  have ih0 := continuoref15_Same.mono_l k
  · intro y0 y1 y2
    unfold continuoref15_Same.l0
    repeat' first
    | (with_reducible exact ih0 _ _ _)
    | (with_reducible exact LeO.refl _)
    | (with_reducible exact LeO.none _)
    | (with_reducible refine LeO.ite ?_ ?_)
    | (with_reducible refine LeO.bind ?_ (fun _ => ?_))
    | exact ih0 _ _ _
    | exact LeO.none _
    | refine LeO.ite ?_ ?_
    | refine LeO.bind ?_ (fun _ => ?_)
theorem continuoref15_Same.mono : ∀ a0 a1 k, LeO (continuoref15_Same.f k a0 a1) (continuoref15_Same.f (k + 1) a0 a1) := by
 intro a0 a1 k
 have ih0 := continuoref15_Same.mono_l k
 unfold continuoref15_Same.f
 repeat' first
  | (with_reducible exact ih0 _ _ _)
  | (with_reducible exact LeO.refl _)
  | (with_reducible exact LeO.none _)
  | (with_reducible refine LeO.ite ?_ ?_)
  | (with_reducible refine LeO.bind ?_ (fun _ => ?_))
  | exact ih0 _ _ _
  | exact LeO.none _
  | refine LeO.ite ?_ ?_
  | refine LeO.bind ?_ (fun _ => ?_)
set_option maxHeartbeats 8000000 in
set_option maxRecDepth 100000 in
theorem continuoref15_Same.calls (k : Nat) (A0 : Option Addr) (c0 : Nat) (l0 : List (S39)) (A1 : Option Addr) (c1 : Nat) (l1 : List (S39)) (r : Bool) (w : World) (hr0 : Kd.C k39 w A0 l0.length l0) (hc0 : l0.length ≤ c0) (hr1 : Kd.C k39 w A1 l1.length l1) (hc1 : l1.length ≤ c1) (h : continuoref15_Same.f k l0 l1 = some r) :
 Calls Try.prog 11 #[.slice A0 l0.length c0, .slice A1 l1.length c1] w fun e w' => e = .returned (.bool r) ∧ Drawn0 w w' := by
 have hu39 := Try.underlying39
 have HR0 := Aside0.mk hr0
 have HC0 := Aside0.mk hc0
 clear hr0 hc0
 have HR1 := Aside0.mk hr1
 have HC1 := Aside0.mk hc1
 clear hr1 hc1
 have H : (if (l0.length : Int) = (l1.length : Int) then (continuoref15_Same.l0 k l0 l1 0) else (some false)) = some r := h
 clear h
 by_cases c3 : (l0.length : Int) = (l1.length : Int)
 · rw [if_pos c3] at H
   have c3b0 : ((l0.length : Int) == (l1.length : Int)) = true := beq_iff_eq.mpr c3
   have c3b1 : ((l0.length : Int) != (l1.length : Int)) = false := bne_eq_false_iff_eq.mpr c3
   have c3b2 : (l0.length == l1.length) = true := by first | simpa using c3 | (simp at c3 ⊢; omega)
   clear c3
   have H' := Aside0.mk H
   clear H
   go_enter Try.func11, Try.ntmps11
   go_wp2
   repeat (go_quiet (fail); try go_wp2)
   go_loopg [5] k (fun kq v5 w' => ∃ (x5_1 : Int), v5 = .int .i64 x5_1 ∧ Aside0 (continuoref15_Same.l0 kq l0 l1 x5_1 = some r) ∧ Aside0 (kq ≤ k) ∧ Drawn0 w w')
   case atStart => exact ⟨(0), (by first | rfl | (simp; done) | (simp [*]; done)), H', ⟨Nat.le_refl _⟩, by repeat (first | exact Drawn0.refl _ | apply Drawn0.step)⟩
   case round =>
    clear H'
    try clear c1
    try clear p2
    try clear c3
    try clear c3b0
    try clear c3b1
    try clear c3b2
    obtain ⟨x5_1, rfl, HA, HK1, ⟨m1, rfl⟩⟩ := hrel
    cases gk with
    | zero => exact absurd HA.out (by simp [continuoref15_Same.l0])
    | succ k1 =>
     have H := HA.out
     clear HA
     simp only [continuoref15_Same.l0] at H
     by_cases c4 : x5_1 < (l0.length : Int)
     · rw [if_pos c4] at H
       have c4b0 : decide (x5_1 < (l0.length : Int)) = true := decide_eq_true c4
       clear c4
       by_cases c5 : 0 ≤ x5_1
       · rw [if_pos c5] at H
         have c5b0 : decide (0 ≤ x5_1) = true := decide_eq_true c5
         clear c5
         by_cases c6 : x5_1 < (l1.length : Int)
         · rw [if_pos c6] at H
           have c6b0 : decide (x5_1 < (l1.length : Int)) = true := decide_eq_true c6
           clear c6
           by_cases c7 : (!(((rd_T39 l0 x5_1).f0) == ((rd_T39 l1 x5_1).f0)) || (!(((rd_T39 l0 x5_1).f1) == ((rd_T39 l1 x5_1).f1)) || (!(((rd_T39 l0 x5_1).f2) == ((rd_T39 l1 x5_1).f2))))) = true
           · rw [if_pos c7] at H
             have c7b0 : (!(((rd_T39 l0 x5_1).f0) == ((rd_T39 l1 x5_1).f0)) || (!(((rd_T39 l0 x5_1).f1) == ((rd_T39 l1 x5_1).f1)) || (!(((rd_T39 l0 x5_1).f2) == ((rd_T39 l1 x5_1).f2))))) = true := c7
             clear c7
             obtain rfl := Option.some.inj H
             have p139 : 0 ≤ (x5_1 : Int) := of_decide_eq_true (by first | (with_reducible assumption) | assumption)
             have q139 : x5_1 < (l0.length : Int) := of_decide_eq_true (by first | (with_reducible assumption) | assumption)
             obtain ⟨ad139, e139, hx139_0, hx139_1, hx139_2⟩ := at_T39 HR0.out x5_1 p139 q139
             cases e139
             replace p139 := eq_true p139
             replace q139 := eq_true q139
             have p140 : 0 ≤ (x5_1 : Int) := of_decide_eq_true (by first | (with_reducible assumption) | assumption)
             have q140 : x5_1 < (l1.length : Int) := of_decide_eq_true (by first | (with_reducible assumption) | assumption)
             obtain ⟨ad140, e140, hx140_0, hx140_1, hx140_2⟩ := at_T39 HR1.out x5_1 p140 q140
             cases e140
             replace p140 := eq_true p140
             replace q140 := eq_true q140
             go_wp2
             repeat (go_quiet (fail); try go_wp2)
             go_ret
             exact ⟨by first | rfl | (simp; done) | (simp [*]; done), by repeat (first | exact Drawn0.refl _ | apply Drawn0.step)⟩
           · rw [if_neg c7] at H
             have c7b0 : (!(((rd_T39 l0 x5_1).f0) == ((rd_T39 l1 x5_1).f0)) || (!(((rd_T39 l0 x5_1).f1) == ((rd_T39 l1 x5_1).f1)) || (!(((rd_T39 l0 x5_1).f2) == ((rd_T39 l1 x5_1).f2))))) = false := by simpa using c7
             clear c7
             have H' := Aside0.mk H
             clear H
             have p139 : 0 ≤ (x5_1 : Int) := of_decide_eq_true (by first | (with_reducible assumption) | assumption)
             have q139 : x5_1 < (l0.length : Int) := of_decide_eq_true (by first | (with_reducible assumption) | assumption)
             obtain ⟨ad139, e139, hx139_0, hx139_1, hx139_2⟩ := at_T39 HR0.out x5_1 p139 q139
             cases e139
             replace p139 := eq_true p139
             replace q139 := eq_true q139
             have p140 : 0 ≤ (x5_1 : Int) := of_decide_eq_true (by first | (with_reducible assumption) | assumption)
             have q140 : x5_1 < (l1.length : Int) := of_decide_eq_true (by first | (with_reducible assumption) | assumption)
             obtain ⟨ad140, e140, hx140_0, hx140_1, hx140_2⟩ := at_T39 HR1.out x5_1 p140 q140
             cases e140
             replace p140 := eq_true p140
             replace q140 := eq_true q140
             go_wp2
             repeat (go_quiet (fail); try go_wp2)
             go_roundg k1
             case measure => have := HK1.out; omega
             case rel => exact ⟨(wrap64 (x5_1 + 1)), (by first | rfl | (simp; done) | (simp [*]; done)), H', ⟨by have := HK1.out; omega⟩, by repeat (first | exact Drawn0.refl _ | apply Drawn0.step)⟩
         · rw [if_neg c6] at H
           exact absurd H (by simp)
       · rw [if_neg c5] at H
         exact absurd H (by simp)
     · rw [if_neg c4] at H
       have c4b0 : decide (x5_1 < (l0.length : Int)) = false := decide_eq_false c4
       clear c4
       obtain rfl := Option.some.inj H
       go_wp2
       repeat (go_quiet (fail); try go_wp2)
       go_ret
       exact ⟨by first | rfl | (simp; done) | (simp [*]; done), by repeat (first | exact Drawn0.refl _ | apply Drawn0.step)⟩
 · rw [if_neg c3] at H
   have c3b0 : ((l0.length : Int) == (l1.length : Int)) = false := beq_eq_false_iff_ne.mpr c3
   have c3b1 : ((l0.length : Int) != (l1.length : Int)) = true := bne_iff_ne.mpr c3
   have c3b2 : (l0.length == l1.length) = false := by first | simpa using c3 | (simp at c3 ⊢; omega)
   obtain rfl := Option.some.inj H
   go_enter Try.func11, Try.ntmps11
   go_wp2
   repeat (go_quiet (fail); try go_wp2)
   go_ret
   exact ⟨by first | rfl | (simp; done) | (simp [*]; done), by repeat (first | exact Drawn0.refl _ | apply Drawn0.step)⟩
end Go.Proofs.Ytlffhagjpfcecaa.PA

namespace Go.Proofs.Ytlffhagjpfcecaa.PA
open Go.RowKit Go.Proofs.YtlffhagjpfcecaaW.PrintWords Go.Proofs.YtlffhagjpfcecaaW.PrintLast Go.Proofs.YtlffhagjpfcecaaW.PrintMore
attribute [local go_sem] max2_int min2_int max_two min_two max_three min_three max_four min_four
set_option linter.unusedVariables false
set_option linter.unusedSimpArgs false
def continuolaw15_awake.f (k : Nat)  : Option (Bool) := (transport_Spans.f 12 10 14 6).bind fun bt141 => (if bt141.2 = 0 then ((continuoref15_Same.f k bt141.1 (([(⟨12, 2, true⟩ : S39), (⟨10, 4, true⟩ : S39)] : List (S39)))).bind fun t148 => (some t148)) else (some false))
theorem continuolaw15_awake.mono : ∀ k, LeO (continuolaw15_awake.f k ) (continuolaw15_awake.f (k + 1) ) := by
 intro  k
 unfold continuolaw15_awake.f
 repeat' first
  | (with_reducible exact continuoref15_Same.mono _ _ _)
  | (with_reducible exact LeO.refl _)
  | (with_reducible exact LeO.none _)
  | (with_reducible refine LeO.ite ?_ ?_)
  | (with_reducible refine LeO.bind ?_ (fun _ => ?_))
  | exact continuoref15_Same.mono _ _ _
  | exact LeO.none _
  | refine LeO.ite ?_ ?_
  | refine LeO.bind ?_ (fun _ => ?_)
set_option maxHeartbeats 8000000 in
set_option maxRecDepth 100000 in
theorem continuolaw15_awake.calls (k : Nat)  (r : Bool) (w : World) (h : continuolaw15_awake.f k  = some r) :
 Calls Try.prog 12 #[] w fun e w' => e = .returned (.bool r) ∧ Below w.heap.size w w' := by
 have hu39 := Try.underlying39
 have HB := Aside0.mk (Below.refl w.heap.size w)
 have H : ((transport_Spans.f 12 10 14 6).bind fun bt141 => (if bt141.2 = 0 then ((continuoref15_Same.f k bt141.1 (([(⟨12, 2, true⟩ : S39), (⟨10, 4, true⟩ : S39)] : List (S39)))).bind fun t148 => (some t148)) else (some false))) = some r := h
 clear h
 replace H := Option.bind_eq_some_iff.mp H
 obtain ⟨⟨t141, t142⟩, A10, H⟩ := H
 replace H : (if t142 = 0 then ((continuoref15_Same.f k t141 (([(⟨12, 2, true⟩ : S39), (⟨10, 4, true⟩ : S39)] : List (S39)))).bind fun t148 => (some t148)) else (some false)) = some r := H
 have A1 := Aside0.mk A10
 clear A10
 by_cases c2 : t142 = 0
 · rw [if_pos c2] at H
   have c2b0 : (t142 == 0) = true := beq_iff_eq.mpr c2
   have c2b1 : (t142 != 0) = false := bne_eq_false_iff_eq.mpr c2
   clear c2
   obtain ⟨y145, hy145⟩ : ∃ y_ : List (S39), y_ = (([(⟨12, 2, true⟩ : S39), (⟨10, 4, true⟩ : S39)] : List (S39))) := ⟨_, rfl⟩
   replace H : ((continuoref15_Same.f k t141 y145).bind fun t148 => (some t148)) = some r := by first | (rw [hy145]; with_reducible exact H) | (have H2_ := (Option.bind_some _ _).symm.trans H; rw [hy145]; with_reducible exact H2_) | (have H2_ := (Option.bind_some _ _).symm.trans H; with_reducible exact H2_) | with_reducible exact H | (rw [hy145]; exact H) | exact H
   have Ny145 := Aside0.mk hy145
   clear hy145
   replace H := Option.bind_eq_some_iff.mp H
   obtain ⟨t148, A30, H⟩ := H
   replace H : (some t148) = some r := H
   have A3 := Aside0.mk A30
   clear A30
   obtain rfl := Option.some.inj H
   go_enter Try.func12, Try.ntmps12
   go_wp2_with (first | ((with_reducible refine gate_callee (f := 7) rfl ?_); refine goesL_ (some 4) rfl rfl Try.func7 (by kernel_rfl) rfl #[.int .i64 12, .int .i64 10, .int .i64 14, .int .i64 6] rfl (by (try simp only [List.map_toArray, List.map_cons, List.map_nil]); first | done | rfl | (simp only [List.length_drop, List.length_take]; rfl)) ?_; (with_reducible refine (transport_Spans.calls 12 10 14 6 t141 t142 _ A1.out).mono ?_); rintro e w4 ⟨v143, rfl, ho0, hb⟩; refine ⟨_, rfl, ?_⟩; have n0_ := Aside0.mk (Kd.R_lower ho0 (below_size (by repeat (first | (with_reducible first | exact HB.out | apply below_alloc | apply pw_below_drewN | apply below_drew1) | exact HB.out)))); have n1_ := Aside0.mk (below_step (by repeat (first | (with_reducible first | exact HB.out | apply below_alloc | apply pw_below_drewN | apply below_drew1) | exact HB.out)) hb); clear HB; have HO144 := n0_; have HB := n1_; clear n0_ n1_; (try clear hb); (try clear hb2); (try clear hk); (try clear hi); (try clear ho0)) | ((with_reducible refine gate_dst (N := 13) rfl ?_); (try (refine gate_guard (by rfl) ?_; dsimp only)); refine Kd.R_lit k39 _ 39 ?hg (N := 13) ?hd (xs := ([(⟨12, 2, true⟩ : S39), (⟨10, 4, true⟩ : S39)] : List (S39))) (inner := [.int .i64 12, .int .i64 2, .bool true, .int .i64 10, .int .i64 4, .bool true]) (ok := fun _ => True) (okp := fun _ => True) ?hr ?hp (fun _ hk => hk) trivial (Below.refl _ _) (Nat.le_refl _) (by simp) ?_; (case hd => rfl); (case hg => rfl); (case hr => first | (go_simp; done) | (go_simp; rfl)); (case hp => exact (Reps.c3 (show Kd.M k39 _ _ _ (⟨12, 2, true⟩ : S39) [.int .i64 12, .int .i64 2, .bool true] from (k39_mkM _ _ _ (⟨12, 2, true⟩ : S39) )) (Reps.c3 (show Kd.M k39 _ _ _ (⟨10, 4, true⟩ : S39) [.int .i64 10, .int .i64 4, .bool true] from (k39_mkM _ _ _ (⟨10, 4, true⟩ : S39) )) (Reps.none _ _)))); intro v146 w5 ho6 hb hg_ hnew_; clear hg_ hnew_; (first | rw [← Ny145.out] at ho6 | (simp only [Int.reduceToNat] at ho6; rw [← Ny145.out] at ho6)); have n0_ := Aside0.mk (Kd.R_elder' (by (with_reducible repeat (first | apply Kd.R_alloc | apply Kd.R_drewN | apply Kd.R_drew)); exact HO144.out) (Kd.R_base ho6) hb); have n1_ := Aside0.mk (Kd.R_lower (Kd.R_new' ho6 (Kd.R_lt (by (with_reducible repeat (first | apply Kd.R_alloc | apply Kd.R_drewN | apply Kd.R_drew)); exact HO144.out))) (below_size (by repeat (first | (with_reducible first | exact HB.out | apply below_alloc | apply pw_below_drewN | apply below_drew1) | exact HB.out)))); have n2_ := Aside0.mk (below_step (by repeat (first | (with_reducible first | exact HB.out | apply below_alloc | apply pw_below_drewN | apply below_drew1) | exact HB.out)) hb); clear HO144; clear HB; have HO144 := n0_; have HO147 := n1_; have HB := n2_; clear n0_ n1_ n2_; clear hb ho6; obtain ⟨Ao7, co7, eo7⟩ := Kd.R_slice HO144.out; subst eo7; obtain ⟨Ao8, co8, eo8⟩ := Kd.R_slice HO147.out; subst eo8) | (go_at_call 11; (with_reducible refine (continuoref15_Same.calls k _ _ t141 _ _ y145 t148 _ ?side1 ?side2 ?side3 ?side4 A3.out).mono ?_); (case side1 => repeat (first | exact (Kd.R_reads' HO144.out).2.2 | (with_reducible refine Kd.C_alloc ?_ _) | (with_reducible refine Kd.C_drewN ?_ _) | (with_reducible refine Kd.C_drew ?_))); (case side2 => exact (Kd.R_reads' HO144.out).2.1); (case side3 => repeat (first | exact (Kd.R_reads' HO147.out).2.2 | (with_reducible refine Kd.C_alloc ?_ _) | (with_reducible refine Kd.C_drewN ?_ _) | (with_reducible refine Kd.C_drew ?_))); (case side4 => exact (Kd.R_reads' HO147.out).2.1); rintro e w' ⟨rfl, ⟨nd, rfl⟩⟩))
   go_ret
   exact ⟨by first | rfl | (simp [errW_none, errW_some] <;> rfl) | (simp [*, errW_none, errW_some] <;> rfl), by repeat (first | (with_reducible first | exact HB.out | apply below_alloc | apply pw_below_drewN | apply below_drew1) | exact HB.out)⟩
 · rw [if_neg c2] at H
   have c2b0 : (t142 == 0) = false := beq_eq_false_iff_ne.mpr c2
   have c2b1 : (t142 != 0) = true := bne_iff_ne.mpr c2
   obtain rfl := Option.some.inj H
   go_enter Try.func12, Try.ntmps12
   go_wp2_with (first | ((with_reducible refine gate_callee (f := 7) rfl ?_); refine goesL_ (some 4) rfl rfl Try.func7 (by kernel_rfl) rfl #[.int .i64 12, .int .i64 10, .int .i64 14, .int .i64 6] rfl (by (try simp only [List.map_toArray, List.map_cons, List.map_nil]); first | done | rfl | (simp only [List.length_drop, List.length_take]; rfl)) ?_; (with_reducible refine (transport_Spans.calls 12 10 14 6 t141 t142 _ A1.out).mono ?_); rintro e w9 ⟨v143, rfl, ho0, hb⟩; refine ⟨_, rfl, ?_⟩; have n0_ := Aside0.mk (Kd.R_lower ho0 (below_size (by repeat (first | (with_reducible first | exact HB.out | apply below_alloc | apply pw_below_drewN | apply below_drew1) | exact HB.out)))); have n1_ := Aside0.mk (below_step (by repeat (first | (with_reducible first | exact HB.out | apply below_alloc | apply pw_below_drewN | apply below_drew1) | exact HB.out)) hb); clear HB; have HO144 := n0_; have HB := n1_; clear n0_ n1_; (try clear hb); (try clear hb2); (try clear hk); (try clear hi); (try clear ho0)))
   go_ret
   exact ⟨by first | rfl | (simp [errW_none, errW_some] <;> rfl) | (simp [*, errW_none, errW_some] <;> rfl), by repeat (first | (with_reducible first | exact HB.out | apply below_alloc | apply pw_below_drewN | apply below_drew1) | exact HB.out)⟩
end Go.Proofs.Ytlffhagjpfcecaa.PA

namespace Go.Proofs.Ytlffhagjpfcecaa.PA
open Go.RowKit Go.Proofs.YtlffhagjpfcecaaW.PrintWords Go.Proofs.YtlffhagjpfcecaaW.PrintLast Go.Proofs.YtlffhagjpfcecaaW.PrintMore
attribute [local go_sem] max2_int min2_int max_two min_two max_three min_three max_four min_four
set_option linter.unusedVariables false
set_option linter.unusedSimpArgs false
def transport_At.f (a0 : Int) (a1 : Int) (a2 : Int) (a3 : Int) : Option (Int × Int) := (transport_both.f a0 a1 a2 a3).bind fun bt129 => (some (bt129.2.1, bt129.2.2))
set_option maxHeartbeats 8000000 in
set_option maxRecDepth 100000 in
theorem transport_At.calls (a0 : Int) (a1 : Int) (a2 : Int) (a3 : Int) (r1 : Int) (r2 : Int) (w : World) (h : transport_At.f a0 a1 a2 a3 = some (r1, r2)) :
 Calls Try.prog 9 #[.int .i64 a0, .int .i64 a1, .int .i64 a2, .int .i64 a3] w fun e w' => e = .returned (.tuple #[.int .i64 r1, .int .i64 r2]) ∧ Below w.heap.size w w' := by
 have HB := Aside0.mk (Below.refl w.heap.size w)
 have H : ((transport_both.f a0 a1 a2 a3).bind fun bt129 => (some (bt129.2.1, bt129.2.2))) = some (r1, r2) := h
 clear h
 replace H := Option.bind_eq_some_iff.mp H
 obtain ⟨⟨t129, t130, t131⟩, A50, H⟩ := H
 replace H : (some (t130, t131)) = some (r1, r2) := H
 have A5 := Aside0.mk A50
 clear A50
 simp only [Option.some.injEq, Prod.mk.injEq] at H
 obtain ⟨rfl, rfl⟩ := H
 go_enter Try.func9, Try.ntmps9
 go_wp2_with (first | ((with_reducible refine gate_callee (f := 36) rfl ?_); refine goesL_ (some 18) rfl rfl Try.func36 (by kernel_rfl) rfl #[.int .i64 a0, .int .i64 a1, .int .i64 a2, .int .i64 a3] rfl (by (try simp only [List.map_toArray, List.map_cons, List.map_nil]); first | done | rfl | (simp only [List.length_drop, List.length_take]; rfl)) ?_; (with_reducible refine (transport_both.calls a0 a1 a2 a3 t129 t130 t131 _ A5.out).mono ?_); rintro e w6 ⟨v132, rfl, ho0, hb⟩; refine ⟨_, rfl, ?_⟩; have n0_ := Aside0.mk (Kd.R_lower ho0 (below_size (by repeat (first | (with_reducible first | exact HB.out | apply below_alloc | apply pw_below_drewN | apply below_drew1) | exact HB.out)))); have n1_ := Aside0.mk (below_step (by repeat (first | (with_reducible first | exact HB.out | apply below_alloc | apply pw_below_drewN | apply below_drew1) | exact HB.out)) hb); clear HB; have HO133 := n0_; have HB := n1_; clear n0_ n1_; (try clear hb); (try clear hb2); (try clear hk); (try clear hi); (try clear ho0)))
 go_ret2
 exact ⟨by first | rfl | (simp [errW_none, errW_some] <;> rfl) | (simp [*, errW_none, errW_some] <;> rfl), by repeat (first | (with_reducible first | exact HB.out | apply below_alloc | apply pw_below_drewN | apply below_drew1) | exact HB.out)⟩
end Go.Proofs.Ytlffhagjpfcecaa.PA

namespace Go.Proofs.Ytlffhagjpfcecaa.PA
open Go.RowKit Go.Proofs.YtlffhagjpfcecaaW.PrintWords Go.Proofs.YtlffhagjpfcecaaW.PrintLast Go.Proofs.YtlffhagjpfcecaaW.PrintMore
attribute [local go_sem] max2_int min2_int max_two min_two max_three min_three max_four min_four
set_option linter.unusedVariables false
set_option linter.unusedSimpArgs false
def continuoref03_SameRow.l0 : Nat → List Int → List Int → Int → Option (Bool)
 | 0, _, _, _ => none
 | k + 1, x0, x1, x5 => if x5 < (x0.length : Int) then (if 0 ≤ x5 then (if x5 < (x1.length : Int) then (if (rd x0 x5) = (rd x1 x5) then (continuoref03_SameRow.l0 k x0 x1 (wrap64 (x5 + 1))) else (some false)) else (none)) else (none)) else (some true)
def continuoref03_SameRow.f (k : Nat) (l0 : List Int) (l1 : List Int) : Option (Bool) := if (l0.length : Int) = (l1.length : Int) then (continuoref03_SameRow.l0 k l0 l1 0) else (some false)
theorem continuoref03_SameRow.mono_l : ∀ k, (∀ y0 y1 y2, LeO (continuoref03_SameRow.l0 k y0 y1 y2) (continuoref03_SameRow.l0 (k + 1) y0 y1 y2))
 | 0 => fun _ _ _ r h => by simp [continuoref03_SameRow.l0] at h
 | k + 1 => by
  have ih0 := continuoref03_SameRow.mono_l k
  · intro y0 y1 y2
    unfold continuoref03_SameRow.l0
    repeat' first
    | (with_reducible exact ih0 _ _ _)
    | (with_reducible exact LeO.refl _)
    | (with_reducible exact LeO.none _)
    | (with_reducible refine LeO.ite ?_ ?_)
    | (with_reducible refine LeO.bind ?_ (fun _ => ?_))
    | exact ih0 _ _ _
    | exact LeO.none _
    | refine LeO.ite ?_ ?_
    | refine LeO.bind ?_ (fun _ => ?_)
theorem continuoref03_SameRow.mono : ∀ a0 a1 k, LeO (continuoref03_SameRow.f k a0 a1) (continuoref03_SameRow.f (k + 1) a0 a1) := by
 intro a0 a1 k
 have ih0 := continuoref03_SameRow.mono_l k
 unfold continuoref03_SameRow.f
 repeat' first
  | (with_reducible exact ih0 _ _ _)
  | (with_reducible exact LeO.refl _)
  | (with_reducible exact LeO.none _)
  | (with_reducible refine LeO.ite ?_ ?_)
  | (with_reducible refine LeO.bind ?_ (fun _ => ?_))
  | exact ih0 _ _ _
  | exact LeO.none _
  | refine LeO.ite ?_ ?_
  | refine LeO.bind ?_ (fun _ => ?_)
set_option maxHeartbeats 8000000 in
set_option maxRecDepth 100000 in
theorem continuoref03_SameRow.calls (k : Nat) (A0 : Option Addr) (c0 : Nat) (l0 : List Int) (A1 : Option Addr) (c1 : Nat) (l1 : List Int) (r : Bool) (w : World) (hr0 : Kd.C (Kd.int .i64) w A0 l0.length l0) (hc0 : l0.length ≤ c0) (hr1 : Kd.C (Kd.int .i64) w A1 l1.length l1) (hc1 : l1.length ≤ c1) (h : continuoref03_SameRow.f k l0 l1 = some r) :
 Calls Try.prog 18 #[.slice A0 l0.length c0, .slice A1 l1.length c1] w fun e w' => e = .returned (.bool r) ∧ Drawn0 w w' := by
 have HR0 := Aside0.mk hr0
 have HC0 := Aside0.mk hc0
 clear hr0 hc0
 have HR1 := Aside0.mk hr1
 have HC1 := Aside0.mk hc1
 clear hr1 hc1
 have H : (if (l0.length : Int) = (l1.length : Int) then (continuoref03_SameRow.l0 k l0 l1 0) else (some false)) = some r := h
 clear h
 by_cases c3 : (l0.length : Int) = (l1.length : Int)
 · rw [if_pos c3] at H
   have c3b0 : ((l0.length : Int) == (l1.length : Int)) = true := beq_iff_eq.mpr c3
   have c3b1 : ((l0.length : Int) != (l1.length : Int)) = false := bne_eq_false_iff_eq.mpr c3
   have c3b2 : (l0.length == l1.length) = true := by first | simpa using c3 | (simp at c3 ⊢; omega)
   clear c3
   have H' := Aside0.mk H
   clear H
   go_enter Try.func18, Try.ntmps18
   go_wp2
   repeat (go_quiet (fail); try go_wp2)
   go_loopg [5] k (fun kq v5 w' => ∃ (x5_1 : Int), v5 = .int .i64 x5_1 ∧ Aside0 (continuoref03_SameRow.l0 kq l0 l1 x5_1 = some r) ∧ Aside0 (kq ≤ k) ∧ Drawn0 w w')
   case atStart => exact ⟨(0), (by first | rfl | (simp; done) | (simp [*]; done)), H', ⟨Nat.le_refl _⟩, by repeat (first | exact Drawn0.refl _ | apply Drawn0.step)⟩
   case round =>
    clear H'
    try clear c1
    try clear p2
    try clear c3
    try clear c3b0
    try clear c3b1
    try clear c3b2
    obtain ⟨x5_1, rfl, HA, HK1, ⟨m1, rfl⟩⟩ := hrel
    cases gk with
    | zero => exact absurd HA.out (by simp [continuoref03_SameRow.l0])
    | succ k1 =>
     have H := HA.out
     clear HA
     simp only [continuoref03_SameRow.l0] at H
     by_cases c4 : x5_1 < (l0.length : Int)
     · rw [if_pos c4] at H
       have c4b0 : decide (x5_1 < (l0.length : Int)) = true := decide_eq_true c4
       clear c4
       by_cases c5 : 0 ≤ x5_1
       · rw [if_pos c5] at H
         have c5b0 : decide (0 ≤ x5_1) = true := decide_eq_true c5
         clear c5
         by_cases c6 : x5_1 < (l1.length : Int)
         · rw [if_pos c6] at H
           have c6b0 : decide (x5_1 < (l1.length : Int)) = true := decide_eq_true c6
           clear c6
           by_cases c7 : (rd l0 x5_1) = (rd l1 x5_1)
           · rw [if_pos c7] at H
             have c7b0 : ((rd l0 x5_1) == (rd l1 x5_1)) = true := beq_iff_eq.mpr c7
             have c7b1 : ((rd l0 x5_1) != (rd l1 x5_1)) = false := bne_eq_false_iff_eq.mpr c7
             clear c7
             have H' := Aside0.mk H
             clear H
             have p283 : 0 ≤ (x5_1 : Int) := of_decide_eq_true (by first | (with_reducible assumption) | assumption)
             have q283 : x5_1 < (l0.length : Int) := of_decide_eq_true (by first | (with_reducible assumption) | assumption)
             obtain ⟨ad283, e283, hx283_0⟩ := Kd.at_int HR0.out x5_1 p283 q283
             cases e283
             replace p283 := eq_true p283
             replace q283 := eq_true q283
             have p284 : 0 ≤ (x5_1 : Int) := of_decide_eq_true (by first | (with_reducible assumption) | assumption)
             have q284 : x5_1 < (l1.length : Int) := of_decide_eq_true (by first | (with_reducible assumption) | assumption)
             obtain ⟨ad284, e284, hx284_0⟩ := Kd.at_int HR1.out x5_1 p284 q284
             cases e284
             replace p284 := eq_true p284
             replace q284 := eq_true q284
             go_wp2
             repeat (go_quiet (fail); try go_wp2)
             go_roundg k1
             case measure => have := HK1.out; omega
             case rel => exact ⟨(wrap64 (x5_1 + 1)), (by first | rfl | (simp; done) | (simp [*]; done)), H', ⟨by have := HK1.out; omega⟩, by repeat (first | exact Drawn0.refl _ | apply Drawn0.step)⟩
           · rw [if_neg c7] at H
             have c7b0 : ((rd l0 x5_1) == (rd l1 x5_1)) = false := beq_eq_false_iff_ne.mpr c7
             have c7b1 : ((rd l0 x5_1) != (rd l1 x5_1)) = true := bne_iff_ne.mpr c7
             obtain rfl := Option.some.inj H
             have p283 : 0 ≤ (x5_1 : Int) := of_decide_eq_true (by first | (with_reducible assumption) | assumption)
             have q283 : x5_1 < (l0.length : Int) := of_decide_eq_true (by first | (with_reducible assumption) | assumption)
             obtain ⟨ad283, e283, hx283_0⟩ := Kd.at_int HR0.out x5_1 p283 q283
             cases e283
             replace p283 := eq_true p283
             replace q283 := eq_true q283
             have p284 : 0 ≤ (x5_1 : Int) := of_decide_eq_true (by first | (with_reducible assumption) | assumption)
             have q284 : x5_1 < (l1.length : Int) := of_decide_eq_true (by first | (with_reducible assumption) | assumption)
             obtain ⟨ad284, e284, hx284_0⟩ := Kd.at_int HR1.out x5_1 p284 q284
             cases e284
             replace p284 := eq_true p284
             replace q284 := eq_true q284
             go_wp2
             repeat (go_quiet (fail); try go_wp2)
             go_ret
             exact ⟨by first | rfl | (simp; done) | (simp [*]; done), by repeat (first | exact Drawn0.refl _ | apply Drawn0.step)⟩
         · rw [if_neg c6] at H
           exact absurd H (by simp)
       · rw [if_neg c5] at H
         exact absurd H (by simp)
     · rw [if_neg c4] at H
       have c4b0 : decide (x5_1 < (l0.length : Int)) = false := decide_eq_false c4
       clear c4
       obtain rfl := Option.some.inj H
       go_wp2
       repeat (go_quiet (fail); try go_wp2)
       go_ret
       exact ⟨by first | rfl | (simp; done) | (simp [*]; done), by repeat (first | exact Drawn0.refl _ | apply Drawn0.step)⟩
 · rw [if_neg c3] at H
   have c3b0 : ((l0.length : Int) == (l1.length : Int)) = false := beq_eq_false_iff_ne.mpr c3
   have c3b1 : ((l0.length : Int) != (l1.length : Int)) = true := bne_iff_ne.mpr c3
   have c3b2 : (l0.length == l1.length) = false := by first | simpa using c3 | (simp at c3 ⊢; omega)
   obtain rfl := Option.some.inj H
   go_enter Try.func18, Try.ntmps18
   go_wp2
   repeat (go_quiet (fail); try go_wp2)
   go_ret
   exact ⟨by first | rfl | (simp; done) | (simp [*]; done), by repeat (first | exact Drawn0.refl _ | apply Drawn0.step)⟩
end Go.Proofs.Ytlffhagjpfcecaa.PA

namespace Go.Proofs.Ytlffhagjpfcecaa.PA
open Go.RowKit Go.Maps Go.Shelf Go.Sort Go.Proofs.YtlffhagjpfcecaaW.PrintWords Go.Proofs.YtlffhagjpfcecaaW.PrintLast Go.Proofs.YtlffhagjpfcecaaW.PrintMore
set_option linter.unusedVariables false
set_option linter.unusedSimpArgs false
theorem own_cells3 {W : World} {base g cap n : Nat} {e : TypeId} {xs : List Value} (h : W.ownsRow base e 3 (.slice (some ⟨g, 0, none⟩) n cap) n xs) : ∀ (j : Nat) (u : Value), xs[j]? = some u → W.cell? ⟨g, j, none⟩ = some u := by
 rcases h.2 with ⟨e, _⟩ | ⟨g', cap', cur, e, _, hgb, hn, _, hcs, ht⟩
 · cases e
 cases e
 intro j u hu
 have hj : j < xs.length := (List.getElem?_eq_some_iff.1 hu).1
 have hl := h.1
 have hc : cur[j]? = some u := by
  have h1 : (cur.toList.take (n * 3))[j]? = some u := by rw [ht]; exact hu
  rw [List.getElem?_take, if_pos (by omega)] at h1
  simpa using h1
 simp [World.cell?, hgb, hc]
theorem fl39_at : ∀ (l : List S39) (i : Nat) (x : S39), l[i]? = some x → (fl39 l)[i * 3]? = some (.int .i64 x.f0) ∧ (fl39 l)[i * 3 + 1]? = some (.int .i64 x.f1) ∧ (fl39 l)[i * 3 + 2]? = some (.bool x.f2)
 | [], i, x, h => by cases h
 | y :: l, 0, x, h => by
  cases h
  exact ⟨rfl, rfl, rfl⟩
 | y :: l, i + 1, x, h => by
  obtain ⟨h1, h2, h3⟩ := fl39_at l i x h
  have e : fl39 (y :: l) = .int .i64 y.f0 :: .int .i64 y.f1 :: .bool y.f2 :: fl39 l := rfl
  have e3 : (i + 1) * 3 = i * 3 + 1 + 1 + 1 := by omega
  rw [e, e3]
  exact ⟨h1, h2, h3⟩
theorem span_cells {W : World} {base : Nat} {A : Option Addr} {c n : Nat} {l : List S39} (h : W.ownsRow base 39 3 (.slice A n c) n (fl39 l)) {i : Nat} {x : S39} (hi : i < n) (hx : l[i]? = some x) :
 ∃ g, A = some ⟨g, 0, none⟩ ∧ W.cell? ⟨g, i * 3, none⟩ = some (.int .i64 x.f0) ∧ W.cell? ⟨g, i * 3 + 1, none⟩ = some (.int .i64 x.f1) ∧ W.cell? ⟨g, i * 3 + 2, none⟩ = some (.bool x.f2) := by
 obtain ⟨g, rfl⟩ := own_some h (by omega)
 obtain ⟨h1, h2, h3⟩ := fl39_at l i x hx
 exact ⟨g, rfl, own_cells3 h _ _ h1, own_cells3 h _ _ h2, own_cells3 h _ _ h3⟩
theorem flat_reps {R : S39 → List Value → Prop} (hR : ∀ x c, R x c → c = [.int .i64 x.f0, .int .i64 x.f1, .bool x.f2]) : ∀ (l : List S39) (fs : List Value), Reps R 3 l fs → fs = fl39 l
 | [], fs, h => by
  have := h.1
  simp at this
  rw [this]; rfl
 | x :: l, fs, h => by
  have h0 := hR _ _ (h.2 0 x rfl)
  simp only [Nat.zero_mul, List.drop_zero] at h0
  have hr : Reps R 3 l (fs.drop 3) := by
   refine ⟨by rw [List.length_drop, h.1, List.length_cons]; omega, fun j p hp => ?_⟩
   have := h.2 (j + 1) p hp
   rw [List.drop_drop]
   rwa [show 3 + j * 3 = (j + 1) * 3 by omega]
  have := flat_reps hR l _ hr
  rw [← List.take_append_drop 3 fs, h0, this]
  rfl
theorem spans7 (a0 a1 a2 a3 : Int) (w : World) : Calls Try.prog 7 #[.int .i64 a0, .int .i64 a1, .int .i64 a2, .int .i64 a3] w fun e w' =>
 ∃ A c, e = .returned (.tuple #[.slice A (rolledP a0 a1 a2 a3).1.length c, .int .i64 (rolledP a0 a1 a2 a3).2.2]) ∧ w'.ownsRow w.heap.size 39 3 (.slice A (rolledP a0 a1 a2 a3).1.length c) (rolledP a0 a1 a2 a3).1.length (fl39 (rolledP a0 a1 a2 a3).1) ∧ Below w.heap.size w w' := by
 refine (transport_Spans.calls a0 a1 a2 a3 (rolledP a0 a1 a2 a3).1 (rolledP a0 a1 a2 a3).2.2 w rfl).mono ?_
 rintro e w' ⟨v, rfl, ⟨_, fs, hrow, hreps⟩, hb⟩
 have hf := flat_reps (fun x c h => k39_openM h) _ _ hreps
 subst hf
 obtain ⟨A, c, rfl⟩ := own_sl hrow
 exact ⟨A, c, rfl, hrow, hb⟩
theorem at9 (a0 a1 a2 a3 : Int) (w : World) : Calls Try.prog 9 #[.int .i64 a0, .int .i64 a1, .int .i64 a2, .int .i64 a3] w fun e w' => e = .returned (.tuple #[.int .i64 (rolledP a0 a1 a2 a3).2.1, .int .i64 (rolledP a0 a1 a2 a3).2.2]) ∧ Below w.heap.size w w' :=
 transport_At.calls a0 a1 a2 a3 (rolledP a0 a1 a2 a3).2.1 (rolledP a0 a1 a2 a3).2.2 w rfl
theorem same_l0 (l : List Int) (hl : l.length ≤ 1000000) : ∀ (k : Nat) (i : Nat), i ≤ l.length → l.length - i < k → continuoref03_SameRow.l0 k l l i = some true
 | 0, i, _, h => by omega
 | k + 1, i, hi, h => by
  rw [continuoref03_SameRow.l0.eq_2]
  by_cases hlt : (i : Int) < (l.length : Int)
  · rw [if_pos hlt, if_pos (by omega), if_pos hlt, if_pos rfl]
    have e : wrap64 ((i : Int) + 1) = ((i + 1 : Nat) : Int) := by rw [w64 (by omega) (by omega)]; omega
    rw [e]
    exact same_l0 l hl k (i + 1) (by omega) (by omega)
  · rw [if_neg hlt]
theorem kd_ints {W : World} {base : Nat} {A : Option Addr} {n c : Nat} {xs : List Int} (h : W.ownsRow base 3 1 (.slice A n c) n (ints xs)) (hn : xs.length = n) (hs : n ≤ 1000000) : Kd.C (Kd.int .i64) W A xs.length xs := by
 subst hn
 refine ⟨rfl, by omega, fun hp => ?_⟩
 obtain ⟨g, rfl⟩ := own_some h hp
 refine ⟨⟨g, 0, none⟩, rfl, fun j p hj => ?_⟩
 have hc := own_cells h j (.int .i64 p) (by simp [hj])
 refine ⟨[.int .i64 p], rfl, rfl, fun i u hu => ?_⟩
 have hi : i = 0 := by
  have := (List.getElem?_eq_some_iff.1 hu).1
  simp at this
  exact this
 subst hi
 cases hu
 have e1 : j * (Kd.int IntKind.i64).sz + 0 = j := by
  show j * 1 + 0 = j
  omega
 have e : (⟨g, 0, none⟩ : Addr).add j = ⟨g, 0 + j, none⟩ := by unfold Addr.add; split <;> simp_all
 rw [e1, e]
 exact hc
theorem same18 {W : World} {base : Nat} {A A2 : Option Addr} {n c n2 c2 : Nat} {xs : List Int} (h : W.ownsRow base 3 1 (.slice A n c) n (ints xs)) (h2 : W.ownsRow base 3 1 (.slice A2 n2 c2) n2 (ints xs)) (hn : xs.length = n) (hn2 : xs.length = n2) (hs : n ≤ 1000000) :
 Calls Try.prog 18 #[.slice A n c, .slice A2 n2 c2] W fun e w' => e = .returned (.bool true) ∧ Drawn0 W w' := by
 have hk1 := kd_ints h hn hs
 have hk2 := kd_ints h2 hn2 (by omega)
 subst hn
 subst hn2
 refine continuoref03_SameRow.calls (xs.length + 1) A c xs A2 c2 xs true W hk1 (own_cap h) hk2 (own_cap h2) ?_
 unfold continuoref03_SameRow.f
 rw [if_pos rfl]
 exact same_l0 xs hs _ 0 (Nat.zero_le _) (by omega)
end Go.Proofs.Ytlffhagjpfcecaa.PA

namespace Go.Proofs.Ytlffhagjpfcecaa.PA
open Go.RowKit Go.Maps Go.Shelf Go.Sort Go.Proofs.YtlffhagjpfcecaaW.PrintWords Go.Proofs.YtlffhagjpfcecaaW.PrintLast Go.Proofs.YtlffhagjpfcecaaW.PrintMore
set_option linter.unusedVariables false
set_option linter.unusedSimpArgs false
def Nums (W : World) (a : Option Addr) (zs : List Int) : Prop := ∀ (i : Nat) (z : Int), zs[i]? = some z → ∃ ad, a = some ad ∧ W.cell? (ad.add i) = some (.int .i64 z) ∧ ad.block < W.heap.size
theorem Nums.below {W w : World} {a : Option Addr} {zs : List Int} (h : Nums W a zs) (hb : Below W.heap.size W w) {i : Nat} {z : Int} (hz : zs[i]? = some z) : ∃ ad, a = some ad ∧ w.cell? (ad.add i) = some (.int .i64 z) := by
 obtain ⟨ad, e, hc, hl⟩ := h i z hz
 refine ⟨ad, e, (hb.cell (p := ad.add i) ?_).trans hc⟩
 unfold Addr.add
 split <;> exact hl
theorem awake_ok2 : continuolaw15_awake.f 200 = some true := by decide +kernel
theorem awake_calls (w : World) : Calls Try.prog 12 #[] w fun e w' => e = .returned (.bool true) ∧ Below w.heap.size w w' := continuolaw15_awake.calls 200 true w awake_ok2
end Go.Proofs.Ytlffhagjpfcecaa.PA

namespace Go.Proofs.Ytlffhagjpfcecaa.PA
open Go.RowKit Go.Maps Go.Shelf Go.Sort Go.Proofs.YtlffhagjpfcecaaW.PrintWords Go.Proofs.YtlffhagjpfcecaaW.PrintLast Go.Proofs.YtlffhagjpfcecaaW.PrintMore
set_option linter.unusedVariables false
set_option linter.unusedSimpArgs false
theorem rolled_cases (p b e : Int) (cs : List Int) (h : ∀ c ∈ cs, 0 ≤ c ∧ c ≤ 200) (hs : pre cs cs.length ≤ 20000) :
 (rolledP p b e (pre cs cs.length)).2.2 ≠ 0 ∨ (CutH p b e cs ∧ rolledP p b e (pre cs cs.length) = ((partsL b e (pre cs cs.length) p (pre cs cs.length)).map mkS, it b e (pre cs cs.length) p, 0)) := by
 have hz : ((pre cs cs.length : Nat) : Int).toNat = pre cs cs.length := by omega
 obtain ⟨_, q2, _⟩ := parts_all (b := b) (e := e) (pre cs cs.length) p (pre cs cs.length) (by omega) (by omega)
 rw [hz] at q2
 unfold rolledP
 rw [hz]
 split
 · split
   · exact .inl (by decide)
   · rename_i h1 h2
     split
     · rename_i h3
       rw [q2] at h3
       refine .inr ⟨⟨h1.1, h1.2.1, h1.2.2.1, h1.2.2.2.1, h1.2.2.2.2.1, h1.2.2.2.2.2.1, by omega, h, h3.1, h3.2⟩, by rw [q2]⟩
     · exact .inl (by decide)
 · exact .inl (by decide)
def Sm (w : World) (cs : List Int) (v9 v10 : Value) (wr : World) : Prop := ∃ i : Nat, v10 = .int .i64 i ∧ v9 = .int .i64 (pre cs i) ∧ i ≤ cs.length ∧ pre cs i ≤ 200 * i ∧ (∀ (j : Nat) (z : Int), j < i → cs[j]? = some z → 0 ≤ z ∧ z ≤ 200) ∧ Below w.heap.size w wr
theorem parts_bd {b e : Int} (hb : 0 ≤ b) : ∀ (k : Nat) (p fr T : Int), 0 ≤ p → p + fr ≤ T → b + fr ≤ T → ∀ x ∈ partsL b e k p fr, 0 ≤ x.1 ∧ x.1 + x.2 ≤ T
 | 0, p, fr, T, _, _, _, x, h => by cases h
 | k + 1, p, fr, T, h0, h1, h2, x, h => by
  have h' : x ∈ (if 0 < fr then (p, cntN e p fr) :: partsL b e k (nxtP b e p fr) (fr - cntN e p fr) else []) := h
  split at h'
  · rename_i hf
    obtain ⟨c1, c2⟩ := cnt_pos (e := e) (p := p) hf
    rcases List.mem_cons.1 h' with h' | h'
    · rw [h']; exact ⟨h0, by show p + cntN e p fr ≤ T; omega⟩
    · have hn : nxtP b e p fr = b ∨ nxtP b e p fr = p + cntN e p fr := by unfold nxtP; split <;> simp
      exact parts_bd hb k _ _ T (by omega) (by omega) (by omega) x h'
  · cases h'
theorem frs_take_len (l : List (Int × Int)) (i : Nat) : (frs (l.take i)).length ≤ (frs l).length := by
 conv => rhs; rw [← List.take_append_drop i l]
 unfold frs
 rw [List.flatMap_append, List.length_append]
 omega
theorem frs_succ {l : List (Int × Int)} {i : Nat} (h : i < l.length) : frs (l.take (i + 1)) = frs (l.take i) ++ spanF l[i] := by
 unfold frs
 rw [List.take_succ_eq_append_getElem h, List.flatMap_append]
 simp
theorem trk_len (b e : Int) : ∀ (k : Nat) (x : Int), (trk b e k x).length = k
 | 0, x => rfl
 | k + 1, x => by show (trk b e k _).length + 1 = _; rw [trk_len]
theorem spanF_len (x : Int × Int) : (spanF x).length = x.2.toNat := by unfold spanF; simp
theorem spanF_at (x : Int × Int) (j : Nat) (h : j < x.2.toNat) : (spanF x).take (j + 1) = (spanF x).take j ++ [x.1 + (j : Int)] := by
 rw [List.take_succ_eq_append_getElem (by rw [spanF_len]; exact h)]
 congr 2
 unfold spanF
 simp
def Row (B : Nat) (v : Value) (xs : List Int) (wr : World) : Prop := wr.ownsRow B 3 1 v xs.length (ints xs)
def Du2 (w5 : World) (L : List (Int × Int)) (v14 v16 : Value) (wr : World) : Prop := ∃ i : Nat, v16 = .int .i64 i ∧ i ≤ L.length ∧ Row w5.heap.size v14 (frs (L.take i)) wr ∧ Below w5.heap.size w5 wr
def Du3 (w5 : World) (L : List (Int × Int)) (i : Nat) (x : Int × Int) (v14 v17 : Value) (wr : World) : Prop := ∃ j : Nat, v17 = .int .i64 j ∧ (j : Int) ≤ x.2 ∧ Row w5.heap.size v14 (frs (L.take i) ++ (spanF x).take j) wr ∧ Below w5.heap.size w5 wr
theorem Row.more {B : Nat} {v' : Value} {xs : List Int} {z : Int} {w' : World} (h : w'.ownsRow B 3 1 v' (xs.length + 1) (ints xs ++ [.int .i64 z])) : Row B v' (xs ++ [z]) w' := by
 unfold Row
 rw [List.length_append]
 have : ints (xs ++ [z]) = ints xs ++ [.int .i64 z] := by simp
 rw [this]
 exact h
structure Gx (w3 : World) (G : Nat → Prop) (xs : List Int) (v : Value) (wr : World) : Prop where
 row : Row 0 v xs wr
 own : ∀ k, v.ownBlock = some k → G k ∨ w3.heap.size ≤ k
 stp : Step w3 wr G
theorem Gx.more {w3 : World} {G : Nat → Prop} {xs : List Int} {v : Value} {wr w6 : World} {o : Obj} {z : Int} {g cap : Nat} (h : Gx w3 G xs v wr) (hown : w6.ownsRow 0 3 1 (.slice (some ⟨g, 0, none⟩) (xs.length + 1) cap) (xs.length + 1) (ints xs ++ [.int .i64 z]))
 (hg : (wr.alloc o).grownBy w6 v.ownBlock) (hat : v.ownBlock = some g ∨ g = wr.heap.size + 1) : Gx w3 G (xs ++ [z]) (.slice (some ⟨g, 0, none⟩) (xs.length + 1) cap) w6 := by
 have hz := h.stp.kept.1
 refine ⟨Row.more hown, fun k hk => ?_, ?_⟩
 · simp [Value.ownBlock] at hk
   subst hk
   rcases hat with hat | hat
   · exact h.own _ hat
   · exact .inr (by omega)
 · have h1 : Step w3 (wr.alloc o) G := h.stp.trans (Step.of_below ((Below.refl _ wr).alloc (Nat.le_refl _) o) G) (fun _ => .inl)
   exact h1.trans (S' := fun k => v.ownBlock = some k) (Step.of_grown hg (fun k e => e)) (fun k hk => h.own k hk)
def Gt4 (w : World) (B q : Nat) (p b e : Int) (cs : List Int) (dv : Value) (L : List (Int × Int)) (v15 v18 : Value) (wr : World) : Prop :=
 ∃ (i : Nat) (s : TS) (S : Nat → Prop), v18 = .int .i64 i ∧ i ≤ cs.length ∧ CutI p b e cs i s ∧ HasS B S wr q s ∧ Row 0 v15 (trk b e (pre cs i) p) wr ∧ Row 0 dv (frs L) wr ∧ (∀ k, dv.ownBlock = some k → ¬ S k ∧ v15.ownBlock ≠ some k) ∧ (∀ k, v15.ownBlock = some k → B ≤ k ∧ ¬ S k) ∧ Below w.heap.size w wr ∧ B ≤ wr.heap.size
def G5 (w3 : World) (G : Nat → Prop) (xs : List Int) (P : List (Int × Int)) (v15 v21 : Value) (wr : World) : Prop := ∃ i : Nat, v21 = .int .i64 i ∧ i ≤ P.length ∧ Gx w3 G (xs ++ frs (P.take i)) v15 wr
def G6 (w3 : World) (G : Nat → Prop) (xs : List Int) (P : List (Int × Int)) (i : Nat) (x : Int × Int) (v15 v22 : Value) (wr : World) : Prop := ∃ j : Nat, v22 = .int .i64 j ∧ (j : Int) ≤ x.2 ∧ Gx w3 G (xs ++ frs (P.take i) ++ (spanF x).take j) v15 wr
set_option maxRecDepth 100000 in
set_option maxHeartbeats 8000000 in
theorem cut_calls (p b e : Int) (a : Option Addr) (n c : Nat) (cs : List Int) (w : World) (hn : cs.length = n) (hN : Nums w a cs) (hc : n ≤ c) :
 Calls Try.prog 4 #[.int .i64 p, .int .i64 b, .int .i64 e, .slice a n c] w fun ee w' => ee = .returned (.bool true) ∧ Below w.heap.size w w' := by
 have HN := Aside0.mk hN
 clear hN
 subst hn
 by_cases hg : 30 < cs.length
 · go_enter Try.func4, Try.ntmps4
   go_wp2_with (go_at_call 12; refine (awake_calls _).mono ?_; rintro e w' ⟨rfl, hb⟩)
   go_ret
   exact ⟨rfl, hb⟩
 have hst : Sm w cs (.int .i64 0) (.int .i64 0) w := ⟨0, rfl, rfl, Nat.zero_le _, by simp [pre], fun j z h => absurd h (Nat.not_lt_zero _), Below.refl _ _⟩
 go_enter Try.func4, Try.ntmps4
 go_wp2_with (fail)
 go_loopw [9, 10] (Sm w cs) (fun _ v10 _ => cs.length - (intOf v10).toNat)
 case atStart => exact hst
 case round =>
  clear hst
  obtain ⟨i, rfl, rfl, hi, hp, hall, hb⟩ := hrel
  have HB := Aside0.mk hb
  have HA := Aside0.mk hall
  clear hb hall
  by_cases hlt : i < cs.length
  · have hltz : (i : Int) < (cs.length : Int) := by omega
    obtain ⟨ad, rfl, hcell⟩ := HN.out.below HB.out (i := i) (z := cs[i]) (by simp [hlt])
    have HP := Aside0.mk (pre_succ hlt)
    have HG := Aside0.mk (show cs[i]? = some cs[i] by simp [hlt])
    obtain ⟨z, hz⟩ : ∃ z, cs[i] = z := ⟨_, rfl⟩
    rw [hz] at hcell HP HG
    clear hz
    by_cases h0 : z < 0
    · go_wp2_with (go_at_call 12; refine (awake_calls _).mono ?_; rintro e w' ⟨rfl, hb⟩)
      go_ret
      exact ⟨rfl, HB.out.trans (hb.mono HB.out.size)⟩
    by_cases h1 : 200 < z
    · go_wp2_with (go_at_call 12; refine (awake_calls _).mono ?_; rintro e w' ⟨rfl, hb⟩)
      go_ret
      exact ⟨rfl, HB.out.trans (hb.mono HB.out.size)⟩
    go_wp2
    exact ⟨⟨i + 1, by go_num, by rw [HP.out]; congr 1; omega, by omega, by rw [HP.out]; omega, fun j y hj hy => by
     rcases Nat.lt_or_ge j i with h | h
     · exact HA.out j y h hy
     · have : j = i := by omega
       subst this
       rw [HG.out] at hy
       cases hy
       omega, HB.out⟩, by simp [intOf]; omega⟩
  · have hgez : ¬ ((i : Int) < (cs.length : Int)) := by omega
    obtain rfl : i = cs.length := by omega
    have hall : ∀ x ∈ cs, 0 ≤ x ∧ x ≤ 200 := fun x hx => by
     obtain ⟨j, hj, rfl⟩ := List.getElem_of_mem hx
     exact HA.out j _ hj (by simp [hj])
    have HR := Aside0.mk (rolled_cases p b e cs hall (by omega))
    clear hall
    go_wp2_with (fail)
    refine (spans7 p b e (pre cs cs.length) wr).mono ?_
    rintro ee w1 ⟨A, c1, rfl, hrow, hb1⟩
    have HRow := Aside0.mk hrow
    have HB1 := Aside0.mk hb1
    clear hrow hb1
    rcases HR.out with herr | ⟨hH, heq⟩
    · have hx : ((rolledP p b e (pre cs cs.length)).2.2 == 0) = false := by rw [beq_eq_false_iff_ne]; exact herr
      clear herr
      go_wp2_with (go_at_call 12; refine (awake_calls _).mono ?_; rintro e w' ⟨rfl, hb⟩)
      go_ret
      exact ⟨rfl, (HB.out.trans (HB1.out.mono HB.out.size)).trans (hb.mono (Nat.le_trans HB.out.size HB1.out.size))⟩
    · rw [heq] at HRow
      rw [heq]
      have HH := Aside0.mk hH
      have hp0 := hH.p0
      have HEQ := Aside0.mk heq
      clear hH heq HR
      have HL6 := Aside0.mk (show pre cs cs.length ≤ 6000 by omega)
      go_wp2_with (fail)
      refine (New_calls (B := w1.heap.size) w1 (Nat.le_refl _) 1 (by decide) (by decide)).mono ?_
      rintro ee w2 ⟨q, rfl, hT2, hb2⟩
      have HT2 := Aside0.mk hT2
      have HB2 := Aside0.mk hb2
      clear hT2 hb2
      go_wp2_with (fail)
      refine (Seek_calls HT2.out (by decide) p HH.out.p0 HH.out.p1).mono ?_
      rintro ee w3 ⟨rfl, hT3, hb3⟩
      have HT3 := Aside0.mk hT3
      have HB3 := Aside0.mk hb3
      clear hT3 hb3
      go_wp2_with (fail)
      refine (Loop_calls HT3.out (show (1 : Nat) < 10000 by decide) b e ⟨HH.out.b0, HH.out.b1⟩ ⟨HH.out.e0, HH.out.e1⟩ HH.out.be).mono ?_
      rintro ee w4 ⟨rfl, hT4, hb4⟩
      have HT4 := Aside0.mk hT4
      have HB4 := Aside0.mk hb4
      clear hT4 hb4
      go_wp2_with (fail)
      refine (Start_calls HT4.out (show (2 : Nat) < 10000 by decide)).mono ?_
      rintro ee w5 ⟨rfl, hT5, hb5⟩
      have HT5 := Aside0.mk hT5
      have HB5 := Aside0.mk (((HB2.out.trans HB3.out).trans HB4.out).trans hb5)
      clear hT5 hb5 HT2 HT3 HT4 HB2 HB3 HB4
      obtain ⟨L, hL⟩ : ∃ L, partsL b e (pre cs cs.length) p (pre cs cs.length) = L := ⟨_, rfl⟩
      have hfr : frs L = trk b e (pre cs cs.length) p := by
       have := (parts_all (b := b) (e := e) (pre cs cs.length) p (pre cs cs.length) (by omega) (by omega)).1
       rw [hL, show ((pre cs cs.length : Nat) : Int).toNat = pre cs cs.length by omega] at this
       exact this
      have hbd : ∀ x ∈ L, 0 ≤ x.1 ∧ x.1 + x.2 ≤ 1000006000 := by
       rw [← hL]
       exact parts_bd HH.out.b0 _ _ _ _ HH.out.p0 (by have := HH.out.p1; have := HL6.out; omega) (by have := HH.out.b1; have := HL6.out; omega)
      have hps : ∀ x ∈ L, 1 ≤ x.2 := by
       rw [← hL]
       exact parts_pos _ _ _
      have hfl : (frs L).length ≤ 6000 := by rw [hfr, trk_len]; exact HL6.out
      have hll : L.length ≤ 100 := by rw [← hL]; exact HH.out.ln
      rw [hL] at HRow ⊢
      have HFR := Aside0.mk hfr
      have HBD := Aside0.mk hbd
      have HPS := Aside0.mk hps
      have HFL := Aside0.mk hfl
      clear hL hfr hbd hps hfl
      have hml : ((L.map mkS).length : Nat) = L.length := List.length_map _
      have HR5 : Aside0 (w5.ownsRow wr.heap.size 39 3 (.slice A L.length c1) L.length (fl39 (L.map mkS))) := ⟨row_same (by have := HRow.out; simpa using this) (fun k hk => HB5.out.block k (by have := HRow.out; simp only [List.length_map] at this; exact row_bl this hk))⟩
      have hst2 : Du2 w5 L (.slice none 0 0) (.int .i64 0) w5 := ⟨0, rfl, Nat.zero_le _, ⟨rfl, .inl ⟨rfl, rfl⟩⟩, Below.refl _ _⟩
      clear HRow hml
      go_wp2_with (fail)
      obtain ⟨i0, hI, hz0, hz1, hz2⟩ := info_parts info3
      go_loopw [14, 16] (Du2 w5 L) (fun _ v16 _ => L.length - (intOf v16).toNat)
      case atStart => exact hst2
      case round =>
       clear hst2
       obtain ⟨i2, rfl, hi2, hR2, hbz⟩ := hrel
       obtain ⟨A7, c7, rfl⟩ := own_sl hR2
       have HR2 := Aside0.mk hR2
       have HBZ := Aside0.mk hbz
       clear hR2 hbz
       by_cases hlt2 : i2 < L.length
       · have hltz2 : (i2 : Int) < (L.length : Int) := by omega
         have HSU := Aside0.mk (frs_succ hlt2)
         have hmx : (L.map mkS)[i2]? = some (mkS L[i2]) := by simp [hlt2]
         have hxm : L[i2] ∈ L := List.getElem_mem _
         obtain ⟨x, hx⟩ : ∃ x, L[i2] = x := ⟨_, rfl⟩
         rw [hx] at HSU hmx hxm
         clear hx
         obtain ⟨x0, x1⟩ := HBD.out x hxm
         have x2 := HPS.out x hxm
         have HMX := Aside0.mk hmx
         clear hmx hxm
         obtain ⟨g, rfl, s0, s1, s2⟩ := span_cells (row_same HR5.out (fun k hk => HBZ.out.block k (row_bl HR5.out hk))) hlt2 HMX.out
         simp only [mkS] at s0 s1 s2
         have hst3 : Du3 w5 L i2 x (.slice A7 (frs (L.take i2)).length c7) (.int .i64 0) wr := ⟨0, rfl, by omega, by simpa using HR2.out, HBZ.out⟩
         go_wp2_with (fail)
         go_loopw [14, 17] (Du3 w5 L i2 x) (fun _ v17 _ => x.2.toNat - (intOf v17).toNat)
         case atStart => exact hst3
         case round =>
          clear hst3 s0 s1 s2
          obtain ⟨j, rfl, hj, hR3, hb3⟩ := hrel
          obtain ⟨A8, c8, rfl⟩ := own_sl hR3
          have HR3 := Aside0.mk hR3
          have HB3 := Aside0.mk hb3
          clear hR3 hb3
          obtain ⟨g2, hg2, s0, s1, s2⟩ := span_cells (row_same HR5.out (fun k hk => HB3.out.block k (row_bl HR5.out hk))) hlt2 HMX.out
          simp only [mkS] at s0 s1 s2
          cases hg2
          by_cases hltj : (j : Int) < x.2
          · obtain ⟨ys, hys⟩ : ∃ ys, frs (L.take i2) ++ (spanF x).take j = ys := ⟨_, rfl⟩
            have HYS := Aside0.mk hys
            rw [hys] at HR3 ⊢
            have hyl : ys.length ≤ 1000000 := by
             have h1 := frs_take_len L (i2 + 1)
             rw [HSU.out, List.length_append] at h1
             have h2 : ((spanF x).take j).length ≤ (spanF x).length := by rw [List.length_take]; omega
             rw [← HYS.out, List.length_append]
             have := HFL.out
             omega
            clear hys
            go_wp2_with (at_builtin; go_loud (refine wpList_append_own _ rfl (.tmp 103) (.tmp 111) 31 rfl w5.heap.size 3 i0 (.int .i64 0) 1 8 Try.underlying31 hI hz0 hz1 hz2 rfl (by decide) (.slice A8 ys.length c8) ys.length (ints ys) rfl (HR3.out.alloc _) ⟨wr.heap.size, 0, none⟩ 1 1 [.int .i64 (x.1 + (j : Int))] rfl rfl ?c1 ?c2 ?c3 ?c4 ?c5 ?_; (case c1 => refine one_cell _ _ _ _ ?_; rfl); (case c2 => intro u hu; simp only [List.mem_singleton] at hu; subst hu; rfl); (case c3 => unfold maxLen; omega); (case c4 => omega); (case c5 => have := HB3.out.size; simp; omega); intro v' w6 hown hg _; have HO6 := Aside0.mk hown; have HG6 := Aside0.mk hg; clear hown hg))
            refine ⟨⟨j + 1, by go_num, by omega, ?_, ?_⟩, by simp [intOf]; omega⟩
            · rw [spanF_at x j (by omega), ← List.append_assoc, HYS.out]
              exact Row.more HO6.out
            · have hge := own_ge HR3.out
              exact grown_below (HB3.out.alloc HB3.out.size _) (by have := HB3.out.size; simp; omega) HG6.out (fun k hk => by have := hge k hk; omega)
          · have hjz : ¬ ((j : Int) < x.2) := hltj
            go_wp2
            refine ⟨⟨i2 + 1, by go_num, by omega, ?_, HB3.out⟩, by simp [intOf]; omega⟩
            rw [HSU.out]
            have hfull : (spanF x).take j = spanF x := List.take_of_length_le (by rw [spanF_len]; omega)
            have e : frs (L.take i2) ++ (spanF x).take j = frs (L.take i2) ++ spanF x := by rw [hfull]
            exact (congrArg (fun ys => Row w5.heap.size _ ys wr) e).mp HR3.out
       · have hgz2 : ¬ ((i2 : Int) < (L.length : Int)) := by omega
         have hRd := HR2.out
         rw [List.take_of_length_le (by omega)] at hRd
         have HRD := Aside0.mk hRd
         clear hRd HR2
         have HT5' := Aside0.mk (HT5.out.below HBZ.out)
         obtain ⟨S5, hS5⟩ := HT5.out.open
         have hS6 : HasS w1.heap.size S5 wr q (ask3 p b e) := hS5.kept (G := fun k => w5.heap.size ≤ k) ((Kept.of_below HBZ.out _)) (fun k hk hg => by obtain ⟨_, _, _, _, _, h3⟩ := hS5; have := (h3 k hk).2; omega)
         have hst4 : Gt4 w w1.heap.size q p b e cs (.slice A7 (frs L).length c7) L (.slice none 0 0) (.int .i64 0) wr :=
          ⟨0, _, S5, rfl, Nat.zero_le _, .inl ⟨rfl, rfl⟩, hS6, ⟨rfl, .inl ⟨rfl, rfl⟩⟩, row_base HRD.out (Nat.zero_le _), fun k hk => ⟨fun hs => by obtain ⟨_, _, _, _, _, h3⟩ := hS5; have := (h3 k hs).2; have := own_ge HRD.out k hk; omega, by simp [Value.ownBlock]⟩, fun k hk => by simp [Value.ownBlock] at hk,
           ((HB.out.trans (HB1.out.mono HB.out.size)).trans (HB5.out.mono (Nat.le_trans HB.out.size HB1.out.size))).trans (HBZ.out.mono (Nat.le_trans (Nat.le_trans HB.out.size HB1.out.size) HB5.out.size)), Nat.le_trans HB5.out.size HBZ.out.size⟩
         clear hS5 hS6
         go_wp2_with (fail)
         go_loopw [15, 18] (Gt4 w w1.heap.size q p b e cs (.slice A7 (frs L).length c7) L) (fun _ v18 _ => cs.length - (intOf v18).toNat)
         case atStart => exact hst4
         case round =>
          clear hst4
          obtain ⟨i4, s, S, rfl, hi4, hCI, hHS, hR4, hD4, hdn, hgn, hbw, hBs⟩ := hrel
          obtain ⟨A9, c9, rfl⟩ := own_sl hR4
          have HCI := Aside0.mk hCI
          have HHS := Aside0.mk hHS
          have HR4 := Aside0.mk hR4
          have HD4 := Aside0.mk hD4
          have HDN := Aside0.mk hdn
          have HGN := Aside0.mk hgn
          have HBW := Aside0.mk hbw
          clear hCI hHS hR4 hD4 hdn hgn hbw
          by_cases hlt4 : i4 < cs.length
          · have hltz4 : (i4 : Int) < (cs.length : Int) := by omega
            obtain ⟨ad, rfl, hcell⟩ := HN.out.below HBW.out (i := i4) (z := cs[i4]) (by simp [hlt4])
            obtain ⟨s', hcy, hM⟩ := cut_step HH.out hlt4 HCI.out
            have hcb := HH.out.c0 cs[i4] (List.getElem_mem _)
            have HPS4 := Aside0.mk (pre_succ hlt4)
            obtain ⟨z, hz⟩ : ∃ z, cs[i4] = z := ⟨_, rfl⟩
            rw [hz] at hcell hcy hcb HPS4
            clear hz
            have HCY := Aside0.mk hcy
            have HM := Aside0.mk hM
            clear hcy hM
            go_wp2_with (fail)
            refine (Cycle_hasS HHS.out hBs z hcb.1 (by omega) HCY.out).mono ?_
            rintro ee w3 ⟨v, S', rfl, hr3, hH3, hSS, hS3⟩
            obtain ⟨P, hP⟩ : ∃ P, partsL b e z.toNat (it b e (pre cs i4) p) z = P := ⟨_, rfl⟩
            have hfrP : frs P = trk b e z.toNat (it b e (pre cs i4) p) := by rw [← hP]; exact (parts_all z.toNat _ z hcb.1 (Nat.le_refl _)).1
            have hat : it b e (pre cs i4) p ≤ 1000000000 := by
             obtain ⟨d, hd⟩ := Nat.le.dest (pre_le cs i4)
             exact it_le (HH.out.be.imp (fun h => h.1) id) HH.out.e1 _ d p (by rw [hd]; exact HH.out.en)
            have HBDP := Aside0.mk (show ∀ x ∈ P, 0 ≤ x.1 ∧ x.1 + x.2 ≤ 1000006000 by
             rw [← hP]
             exact parts_bd HH.out.b0 _ _ _ _ (it_nonneg HH.out.b0 _ _ HH.out.p0) (by omega) (by have := HH.out.b1; omega))
            have HPSP := Aside0.mk (show ∀ x ∈ P, 1 ≤ x.2 by rw [← hP]; exact parts_pos _ _ _)
            have hpl : P.length ≤ 200 := by
             have h1 := part_len (b := b) (e := e) (p := p) (f1 := pre cs i4) (f2 := z.toNat) (S := pre cs cs.length) (by rw [← HPS4.out]; exact pre_le cs (i4 + 1)) HH.out.ln
             rw [show ((z.toNat : Nat) : Int) = z by omega, hP] at h1
             omega
            rw [hP] at hr3
            rw [List.length_map] at hr3
            clear hP
            obtain ⟨A10, c10, rfl⟩ := own_sl hr3
            have hxl : (trk b e (pre cs i4) p).length ≤ 6000 := by rw [trk_len]; have := pre_le cs i4; have := HL6.out; omega
            have hfp : (frs P).length ≤ 200 := by rw [hfrP, trk_len]; omega
            obtain ⟨G, hGd⟩ : ∃ G : Nat → Prop, G = fun k => (Value.slice A9 (trk b e (pre cs i4) p).length c9).ownBlock = some k := ⟨_, rfl⟩
            have hG4 : ∀ k, (Value.slice A9 (trk b e (pre cs i4) p).length c9).ownBlock = some k ↔ G k := fun k => by rw [hGd]
            have hzz := hS3.kept.1
            have F1 : Aside0 (∀ k, G k → w1.heap.size ≤ k ∧ ¬ S' k ∧ k < wr.heap.size) := ⟨fun k hk => by
             have h1 := HGN.out k ((hG4 k).2 hk)
             have h2 := row_bl HR4.out ((hG4 k).2 hk)
             exact ⟨h1.1, fun hs => (hSS k hs).elim h1.2 (fun hh => by omega), h2⟩⟩
            have F2 : Aside0 (Row 0 (.slice A7 (frs L).length c7) (frs L) w3 ∧ ∀ k, (Value.slice A7 (frs L).length c7).ownBlock = some k → ¬ S' k ∧ ¬ G k ∧ k < w3.heap.size) := ⟨row_same HD4.out (fun k hk => hS3.kept.2 k (row_bl HD4.out hk) (HDN.out k hk).1), fun k hk => by
             have h1 := HDN.out k hk
             have h2 := row_bl HD4.out hk
             exact ⟨fun hs => (hSS k hs).elim h1.1 (fun hh => by omega), fun hg => h1.2 ((hG4 k).2 hg), by omega⟩⟩
            have F3 : Aside0 (Below w.heap.size w w3) := ⟨HBW.out.trans ((hS3.bel (B := w1.heap.size) (fun k hk => by obtain ⟨_, _, _, _, _, h3⟩ := HHS.out; exact (h3 k hk).1) hBs).mono (Nat.le_trans HB.out.size HB1.out.size))⟩
            have F4 : Aside0 (∀ k, (Value.slice A10 P.length c10).ownBlock = some k → ¬ G k) := ⟨fun k hk hg => by have h1 := own_ge hr3 k hk; have := (F1.out k hg).2.2; omega⟩
            have F5 : w1.heap.size ≤ w3.heap.size := by omega
            have hst5 : G5 w3 G (trk b e (pre cs i4) p) P (.slice A9 (trk b e (pre cs i4) p).length c9) (.int .i64 0) w3 :=
             ⟨0, rfl, Nat.zero_le _, by
              have : frs (P.take 0) = [] := rfl
              rw [this, List.append_nil]
              exact ⟨row_same HR4.out (fun k hk => hS3.kept.2 k (row_bl HR4.out hk) (HGN.out k hk).2), fun k hk => .inl ((hG4 k).1 hk), Step.refl _ _⟩⟩
            have HR3x := Aside0.mk hr3
            have HH3 := Aside0.mk hH3
            have HFP := Aside0.mk hfrP
            clear hr3 hH3 hSS hS3 hGd hG4 hfrP hat hcell HR4 HD4 HDN HGN HHS HBW
            go_wp2_with (fail)
            go_loopw [15, 21] (G5 w3 G (trk b e (pre cs i4) p) P) (fun _ v21 _ => P.length - (intOf v21).toNat)
            case atStart => exact hst5
            case round =>
             clear hst5
             obtain ⟨i5, rfl, hi5, hG5⟩ := hrel
             obtain ⟨A11, c11, rfl⟩ := own_sl hG5.row
             have HG5 := Aside0.mk hG5
             clear hG5
             by_cases hlt5 : i5 < P.length
             · have hltz5 : (i5 : Int) < (P.length : Int) := by omega
               have HSU5 := Aside0.mk (frs_succ hlt5)
               have hmx : (P.map mkS)[i5]? = some (mkS P[i5]) := by simp [hlt5]
               have hxm : P[i5] ∈ P := List.getElem_mem _
               obtain ⟨x, hx⟩ : ∃ x, P[i5] = x := ⟨_, rfl⟩
               rw [hx] at HSU5 hmx hxm
               clear hx
               obtain ⟨x0, x1⟩ := HBDP.out x hxm
               have x2 := HPSP.out x hxm
               have x3 : ¬ x.2 < 1 := by omega
               have HMX := Aside0.mk hmx
               clear hmx hxm
               obtain ⟨g, rfl, s0, s1, s2⟩ := span_cells (row_same HR3x.out (fun k hk => HG5.out.stp.kept.2 k (row_bl HR3x.out hk) (F4.out k hk))) hlt5 HMX.out
               simp only [mkS] at s0 s1 s2
               have hst6 : G6 w3 G (trk b e (pre cs i4) p) P i5 x (.slice A11 (trk b e (pre cs i4) p ++ frs (P.take i5)).length c11) (.int .i64 0) wr := ⟨0, rfl, by omega, by rw [List.take_zero, List.append_nil]; exact HG5.out⟩
               go_wp2_with (fail)
               go_loopw [15, 22] (G6 w3 G (trk b e (pre cs i4) p) P i5 x) (fun _ v22 _ => x.2.toNat - (intOf v22).toNat)
               case atStart =>
                rw [List.length_append] at hst6
                exact hst6
               case round =>
                clear hst6 s0 s1 s2 HG5
                obtain ⟨j, rfl, hj, hG6⟩ := hrel
                obtain ⟨A12, c12, rfl⟩ := own_sl hG6.row
                have HG6 := Aside0.mk hG6
                clear hG6
                obtain ⟨g2, hg2, s0, s1, s2⟩ := span_cells (row_same HR3x.out (fun k hk => HG6.out.stp.kept.2 k (row_bl HR3x.out hk) (F4.out k hk))) hlt5 HMX.out
                simp only [mkS] at s0 s1 s2
                cases hg2
                by_cases hltj : (j : Int) < x.2
                · obtain ⟨ys, hys⟩ : ∃ ys, trk b e (pre cs i4) p ++ frs (P.take i5) ++ (spanF x).take j = ys := ⟨_, rfl⟩
                  have HYS := Aside0.mk hys
                  rw [hys] at HG6 ⊢
                  have hyl : ys.length ≤ 1000000 := by
                   have h1 := frs_take_len P (i5 + 1)
                   rw [HSU5.out, List.length_append] at h1
                   have h2 : ((spanF x).take j).length ≤ (spanF x).length := by rw [List.length_take]; omega
                   rw [← HYS.out, List.length_append, List.length_append]
                   omega
                  clear hys
                  go_wp2_with (at_builtin; go_loud (refine wpList_append_lies _ rfl (.tmp 159) (.tmp 167) 31 rfl 0 3 i0 (.int .i64 0) 1 8 Try.underlying31 hI hz0 hz1 hz2 rfl (by decide) (.slice A12 ys.length c12) ys.length (ints ys) rfl (HG6.out.row.alloc _) ⟨wr.heap.size, 0, none⟩ 1 1 [.int .i64 (x.1 + (j : Int))] rfl rfl ?c1 ?c2 (by decide) ?c3 ?c4 ?c5 (wr.heap.size + 1) ?c6 ?_; (case c1 => refine one_cell _ _ _ _ ?_; rfl); (case c2 => intro u hu; simp only [List.mem_singleton] at hu; subst hu; rfl); (case c3 => unfold maxLen; omega); (case c4 => omega); (case c5 => simp); (case c6 => simp); intro g6 cap6 w6 hown hg hat hlt; have HO6 := Aside0.mk hown; have HG7 := Aside0.mk hg; have HAT := Aside0.mk hat; clear hown hg hat hlt))
                  refine ⟨⟨j + 1, by go_num, by omega, ?_⟩, by simp [intOf]; omega⟩
                  rw [spanF_at x j (by omega), ← List.append_assoc, HYS.out]
                  exact Gx.more HG6.out HO6.out HG7.out HAT.out
                · have hjz : ¬ ((j : Int) < x.2) := hltj
                  go_wp2
                  refine ⟨⟨i5 + 1, by go_num, by omega, ?_⟩, by simp [intOf]; omega⟩
                  rw [HSU5.out, ← List.append_assoc]
                  have hfull : (spanF x).take j = spanF x := List.take_of_length_le (by rw [spanF_len]; omega)
                  have e : trk b e (pre cs i4) p ++ frs (P.take i5) ++ (spanF x).take j = trk b e (pre cs i4) p ++ frs (P.take i5) ++ spanF x := by rw [hfull]
                  exact (congrArg (fun ys => Gx w3 G ys _ wr) e).mp HG6.out
             · have hgz5 : ¬ ((i5 : Int) < (P.length : Int)) := by omega
               go_wp2
               have hx5 := HG5.out
               rw [List.take_of_length_le (by omega), HFP.out, ← trk_add, ← HPS4.out] at hx5
               have hk5 := hx5.stp.kept
               refine ⟨⟨i4 + 1, s', S', by go_num, by omega, .inr HM.out, HH3.out.kept hk5 (fun k hs hg => (F1.out k hg).2.1 hs), ?_, row_same F2.out.1 (fun k hk => hk5.2 k (F2.out.2 k hk).2.2 (F2.out.2 k hk).2.1), fun k hk => ⟨(F2.out.2 k hk).1, fun hv => ?_⟩, fun k hk => ?_, ?_, ?_⟩, by simp [intOf]; omega⟩
               · have e : trk b e (pre cs i4) p ++ frs (P.take i5) = trk b e (pre cs (i4 + 1)) p := by rw [List.take_of_length_le (by omega), HFP.out, ← trk_add, ← HPS4.out]
                 exact (congrArg (fun ys => Row 0 _ ys wr) e).mp HG5.out.row
               · have h1 := HG5.out.own k hv
                 have h2 := F2.out.2 k hk
                 exact h1.elim h2.2.1 (fun hh => by omega)
               · have h1 := HG5.out.own k hk
                 refine ⟨h1.elim (fun hg => (F1.out k hg).1) (fun hh => by omega), fun hs => h1.elim (fun hg => (F1.out k hg).2.1 hs) (fun hh => ?_)⟩
                 obtain ⟨_, _, _, _, _, h3⟩ := HH3.out
                 have := (h3 k hs).2
                 omega
               · exact F3.out.trans (HG5.out.stp.bel (B := w.heap.size) (fun k hg => Nat.le_trans (Nat.le_trans HB.out.size HB1.out.size) (F1.out k hg).1) F3.out.size)
               · exact Nat.le_trans F5 hk5.1
          · have hgz4 : ¬ ((i4 : Int) < (cs.length : Int)) := by omega
            obtain rfl : i4 = cs.length := by omega
            go_wp2_with (fail)
            refine (at9 p b e (pre cs cs.length) wr).mono ?_
            rintro ee w6 ⟨rfl, hb6⟩
            rw [HEQ.out]
            have HB6 := Aside0.mk hb6
            clear hb6
            have hd6 := row_same HD4.out (fun k hk => HB6.out.block k (row_bl HD4.out hk))
            have hg6 := row_same HR4.out (fun k hk => HB6.out.block k (row_bl HR4.out hk))
            have e2 : (frs L).length = (frs (L.take i2)).length := by rw [List.take_of_length_le (by omega)]
            have hd7 := (congrArg (fun ys => w6.ownsRow 0 3 1 (.slice A7 (frs L).length c7) (frs L).length (ints ys)) HFR.out).mp hd6
            have hn7 : (trk b e (pre cs cs.length) p).length = (frs L).length := by rw [HFR.out]
            rw [e2] at hd7 hn7
            have HD6 := Aside0.mk hd7
            clear hd7
            have HG6 := Aside0.mk hg6
            have HP6 := Aside0.mk (HHS.out.shut.below HB6.out)
            clear hd6 hg6
            have HS18 := Aside0.mk (same18 HD6.out HG6.out hn7 rfl (by have := HFL.out; omega))
            have HBF := Aside0.mk (HBW.out.trans (HB6.out.mono HBW.out.size))
            clear hn7 e2
            have hs18 := HS18.out
            clear HS18 HD6 HG6
            have HS18 := Aside0.mk hs18
            clear hs18
            go_upto_region 40 with (fail)
            have hs18 := HS18.out
            clear HS18
            have HPQ : (cs.length = 0 ∨ s.ps = it b e (pre cs cs.length) p) := by
             rcases HCI.out with ⟨h, _⟩ | h
             · exact .inl h
             · exact .inr h.ps
            generalize h7 : (frs (List.take i2 L)).length = n7 at hs18 ⊢
            generalize h9 : (trk b e (pre cs cs.length) p).length = n9 at hs18 ⊢
            generalize hx : it b e (pre cs cs.length) p = x23 at HPQ ⊢
            generalize hm : ((pre cs cs.length : Nat) : Int) = m at ⊢
            have HPQ := Aside0.mk HPQ
            have HS18 := Aside0.mk hs18
            clear h7 h9 hx hm hs18
            by_cases hcz : cs.length = 0
            · have hq : (((cs.length : Nat) : Int) == 0) = true := by rw [beq_iff_eq]; omega
              clear hcz
              go_wp2_with (first | (go_at_call 18; refine HS18.out.mono ?_; rintro ee w7 ⟨rfl, ⟨nd, rfl⟩⟩) | (go_at_call 12; refine (awake_calls _).mono ?_; rintro ee w8 ⟨rfl, hb8⟩))
              go_ret
              exact ⟨rfl, (pw_below_drewN HBF.out _).trans (hb8.mono (by have := HBF.out.size; simp; omega))⟩
            · have hq : (((cs.length : Nat) : Int) == 0) = false := by rw [beq_eq_false_iff_ne]; omega
              have hps : s.ps = x23 := HPQ.out.resolve_left hcz
              have HPOS : ∀ n, Calls Try.prog 19 #[.pointer (some ⟨q, 0, none⟩)] (w6.drewN n) fun e' w' => e' = .returned (.int .i64 x23) ∧ w' = w6.drewN n := fun n => by rw [← hps]; exact Position_calls (HP6.out.below (pw_below_drewN (Below.refl _ _) n))
              clear hcz hps
              go_wp2_with (first | (go_at_call 18; refine HS18.out.mono ?_; rintro ee w7 ⟨rfl, ⟨nd, rfl⟩⟩) | (go_at_call 19; refine (HPOS _).mono ?_; rintro ee w9 ⟨rfl, rfl⟩) | (go_at_call 12; refine (awake_calls _).mono ?_; rintro ee w8 ⟨rfl, hb8⟩))
              go_ret
              exact ⟨rfl, (pw_below_drewN HBF.out _).trans (hb8.mono (by have := HBF.out.size; simp; omega))⟩
end Go.Proofs.Ytlffhagjpfcecaa.PA

namespace Go.Proofs.Ytlffhagjpfcecaa.transportCut
open Go.ChangeShapes Go.WideShapes Go.ChangeAt Go.RowKit Go.Joins
set_option linter.unusedVariables false
theorem own : ownKnob Try.prog.godebug = none := by kernel_rfl
theorem laidOut : laidOutB Try.prog = true := by kernel_rfl
theorem nums_open {H : Type} {enc : TypeId × Value → H} {W : World} {spare : Nat → Bool} {held : Bool} {fuel : Nat} {a : Option Addr} {len cap : Nat} {x : DataW H × List MemPlace} (h : DataW.trod enc Try.prog W 0 spare held fuel 31 [.slice a len cap] = some x) : ∃ zs : List Int, zs.length = len ∧ PA.Nums W a zs ∧ len ≤ cap := by
 rcases Go.ChangeShapes.open_ints (k := .i64) Try.underlying31 Try.underlying3 (by kernel_rfl) h with ⟨hcs, _⟩ | ⟨ad, l, c, zs, hcs, _, hl, _, hz, _, hcell, _⟩
 · simp at hcs
   obtain ⟨rfl, rfl, rfl⟩ := hcs
   exact ⟨[], rfl, fun i z h => (by simp at h), Nat.le_refl _⟩
 · simp at hcs
   obtain ⟨rfl, rfl, rfl⟩ := hcs
   have hlz : len ≤ zs.length := by rw [hz]; split <;> omega
   refine ⟨zs.take len, by rw [List.length_take]; omega, fun i z h => ?_, hl⟩
   have hi : i < (zs.take len).length := (List.getElem?_eq_some_iff.1 h).1
   rw [List.length_take] at hi
   rw [List.getElem?_take, if_pos (by omega)] at h
   have hc := hcell i (by omega)
   have hz2 : zs.getD i 0 = z := by rw [List.getD_eq_getElem?_getD, h]; rfl
   rw [hz2] at hc
   refine ⟨ad, rfl, hc, ?_⟩
   have := World.block_lt_of_cell? _ _ hc
   have e : (ad.add i).block = ad.block := by unfold Addr.add; split <;> rfl
   rw [e] at this
   exact this
set_option maxRecDepth 100000 in
theorem lifted (os : Os) (started : os.Started) (H : Type) (enc : TypeId × Value → H) :
 ReturnsInHanded {} Try.checked os 4 .any (Rows.transportCutSpec.pre6 enc Try.prog Try.f4 Rows.transportCutRow.domain false) (Rows.transportCutSpec.post enc Try.prog Try.f4 false true false false) := by
 refine returnsInHanded_of_change_sized (C := Try.checked) own started (by kernel_rfl) Try.func4
  (ChangeSpec.witness6 (enc := enc) (C := Try.checked) false ⟨#[], #[.int .i64 0, .int .i64 0, .int .i64 0, .slice none 0 0], []⟩ 8 (by kernel_rfl) (by kernel_rfl) (by kernel_rfl) (by kernel_rfl)) ?_
 intro W base args ds gs before hval0 hW hcnd hsz0 _
 have hval : ∀ (j : Nat) t v, Try.f4.params[j]? = some t → args[j]? = some v → Value.okWide Try.prog W .any base t v := hval0
 have hW' := hW
 obtain ⟨p, q, hA0, hV, rfl, hfz, hnd⟩ := hW
 have hA : DataW.TrodAll enc Try.prog W 0 (fun _ => true) true Try.f4.params.toList args.toList ds p := hA0
 rw [Try.params4] at hA hval
 obtain ⟨v0, vs0, d0, ds0, p0, q0, hargs, rfl, rfl, h0, r0⟩ := trodAll_cons hA
 obtain ⟨v1, vs1, d1, ds1, p1, q1, rfl, rfl, rfl, h1, r1⟩ := trodAll_cons r0
 obtain ⟨v2, vs2, d2, ds2, p2, q2, rfl, rfl, rfl, h2, r2⟩ := trodAll_cons r1
 obtain ⟨v3, vs3, d3, ds3, p3, q3, rfl, rfl, rfl, h3, r3⟩ := trodAll_cons r2
 obtain ⟨rfl, rfl, rfl⟩ := trodAll_nil r3
 obtain rfl : args = #[v0, v1, v2, v3] := by cases args; simp_all
 obtain ⟨rfl, rfl⟩ := trodVars_none hV
 obtain ⟨a0, rfl, rfl, rfl, w0⟩ := open_int Try.underlying3 (hval 0 3 v0 rfl rfl) h0
 obtain ⟨a1, rfl, rfl, rfl, w1⟩ := open_int Try.underlying3 (hval 1 3 v1 rfl rfl) h1
 obtain ⟨a2, rfl, rfl, rfl, w2⟩ := open_int Try.underlying3 (hval 2 3 v2 rfl rfl) h2
 obtain ⟨a3, len3, cap3, rfl⟩ := okWide_slice Try.underlying31 (hval 3 31 v3 rfl rfl)
 have k3 := h3
 have lt3 : ∀ x ∈ p3, x.block < W.heap.size := by obtain ⟨m, hm⟩ := k3; exact DataW.trod_lt m _ _ _ hm
 obtain ⟨zs3, hl3, hN3, hc3⟩ : ∃ zs : List Int, zs.length = len3 ∧ PA.Nums W a3 zs ∧ len3 ≤ cap3 := by
  obtain ⟨fuel, hf⟩ := h3
  exact nums_open (by simpa [Value.cells] using hf)
 clear hA0 hval0 hsz0
 have HC := PA.cut_calls a0 a1 a2 a3 len3 cap3 zs3 W hl3 hN3 hc3
 refine HC.mono fun e W' ⟨he, bel⟩ => ?_
 subst he
 exact ⟨_, rfl, _, _, _, [], _, [], hW', trodAll_mk1 (shut_bool Try.underlying4 _), (trodAll_cons_mk (shut_int Try.underlying3 w0) (trodAll_cons_mk (shut_int Try.underlying3 w1) (trodAll_cons_mk (shut_int Try.underlying3 w2) (trodAll_cons_mk (Below.trod laidOut (by kernel_rfl) (of_decide_eq_true (by kernel_rfl)) k3 bel lt3) trodAll_mk0)))), rfl, bel.frame _, fun h => by cases h⟩
theorem over : Rows.transportCutRow.holds Try.pinned (OpenSpec.ofChange Rows.transportCutSpec) :=
 OpenClaim.holds_of_wide 4 Try.f4 rfl rfl rfl rfl rfl rfl rfl ⟨rfl, rfl, rfl, rfl, rfl⟩ rfl rfl rfl rfl rfl (by kernel_rfl) Try.func4 (by kernel_rfl)
  (of_decide_eq_true (by kernel_rfl)) (by unfold Func.isWrapper; first | (rw [if_pos (by decide +kernel)]; kernel_rfl) | (rw [if_neg (by decide +kernel)]; exact ⟨rfl, rfl⟩))
  (fun os started H enc _ => lifted os started H enc)
theorem proved : Rows.TransportCutSaid := over
#print axioms proved
end Go.Proofs.Ytlffhagjpfcecaa.transportCut
namespace Go.Proofs.Ytlffhagjpfcecaa
theorem transportCut_holds : Rows.TransportCutSaid := transportCut.proved
end Go.Proofs.Ytlffhagjpfcecaa
