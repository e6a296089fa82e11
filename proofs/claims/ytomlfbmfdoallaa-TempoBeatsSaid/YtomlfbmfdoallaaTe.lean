/- The program's frame of a tick is the one told by recursion, for all maps and numbers in bounds. -/
import Derived.Test.YtomlfbmfdoallaaTd
import Derived.Deep.RegionHeld3
namespace Go.Proofs.Ytomlfbmfdoallaa.PA
open Go.RowKit Go.Shelf Go.Proofs.YtomlfbmfdoallaaW.PrintWords Go.Proofs.YtomlfbmfdoallaaW.PrintLast Go.Proofs.YtomlfbmfdoallaaW.PrintMore
set_option linter.unusedVariables false
set_option linter.unusedSimpArgs false

/-- A method of a curve. -/
theorem crv_frames_calls (c : Crv) (n : Int) (h : c.Ok n) (w : World) : ∀ (f : Nat) (r : Value), (c.val = .iface 104 r ∧ f = 116 ∨ c.val = .iface 106 r ∧ f = 118) → Calls Try.prog f #[r, .int .i64 n] w fun e w' => e = .returned (.int .i64 (c.frames n)) ∧ Below w.heap.size w w' := by
  intro f r hr
  cases c with
  | even p =>
    obtain ⟨h1, h2, h3, h4⟩ := h
    simp [Crv.val] at hr
    obtain ⟨rfl, rfl⟩ := hr
    exact tempo_even_frames.calls p n _ w (even_frames_eq p n h3 h4 h1 h2)
  | changing p q l =>
    obtain ⟨h1, h2, h3, h4, h5, h6, h7, h8⟩ := h
    simp [Crv.val] at hr
    obtain ⟨rfl, rfl⟩ := hr
    exact tempo_changing_frames.calls p q l n _ w (changing_frames_eq p q l n h7 (by omega) h5 h6 h1 h2 h3 h4)

def tempo_frame.f (l0 : List S27) (a1 : Int) (a2 : Int) : Option Int :=
  if mapOkB l0 = true ∧ 0 ≤ a1 ∧ a1 ≤ 1000000000 ∧ 0 ≤ a2 ∧ a2 ≤ 1000000000 then some (fr l0 a1 a2) else none

set_option maxRecDepth 100000 in
set_option maxHeartbeats 2000000 in
theorem tempo_frame.calls (A0 : Option Addr) (c0 : Nat) (l0 : List (S27)) (a1 : Int) (a2 : Int) (r : Int) (w : World) (hr0 : Kd.C k27 w A0 l0.length l0) (hc0 : l0.length ≤ c0) (h : tempo_frame.f l0 a1 a2 = some r) :
    Calls Try.prog 42 #[.slice A0 l0.length c0, .int .i64 a1, .int .i64 a2] w fun e w' => e = .returned (.int .i64 r) ∧ Below w.heap.size w w' := by
  unfold tempo_frame.f at h
  split at h
  · rename_i hg
    obtain ⟨hok, hs0, hs1, ht0, ht1⟩ := hg
    rw [mapOkB_iff] at hok
    obtain rfl := Option.some.inj h
    obtain ⟨x, p1, p2, p3, p4, p5, p6, p7, p8⟩ := pick_spec a2 ht1 l0 a1 hok.2.2.2 (by intro e; subst e; have := hok.1; simp at this) (fun t e => by rw [hok.2.2.1 t e]; exact ht0)
    have HO := Lib.hid (of_calls A0 c0 l0 a1 a2 w hok hs0 hs1 hr0)
    rw [p1] at HO
    have hlen := hok.2.1
    clear hok hr0 p1 p3
    rw [← p2]
    clear p2 h
    obtain ⟨c, tk, fm, fn⟩ := x
    dsimp only [prtCells] at HO p4 p5 p6 p7 p8 ⊢
    have hb := p4.bound
    generalize hv : c.frames (a2 - tk) = v at hb ⊢
    have HC := fun w => Lib.hid (crv_frames_calls c (a2 - tk) p4 w)
    rw [hv] at HC
    clear hv p4
    cases c with
    | even p =>
      dsimp only [Crv.val] at HO HC
      go_enter Try.func42, Try.ntmps42
      go_wp2_with (fail)
      refine HO.out.mono ?_
      rintro e w1 ⟨rfl, hb1⟩
      go_wp2_with (fail)
      have hme := method_even p
      have HC1 := fun w => Lib.hid ((HC w).out 116 _ (.inl ⟨rfl, rfl⟩))
      clear HC HO
      have hw1 : IntKind.i64.wrap (a2 - tk) = a2 - tk := (i64_w _).trans (w64 (by omega) (by omega))
      have hw2 : IntKind.i64.wrap (fm + v) = fm + v := (i64_w _).trans (w64 (by omega) (by omega))
      go_region_held3 (fun w' => w'.cell? ⟨w1.heap.size, 0, none⟩ = some (.iface 104 (.agg #[.int .i64 p])) ∧ w'.cell? ⟨w1.heap.size, 1, none⟩ = some (.int .i64 tk) ∧ w'.cell? ⟨w1.heap.size, 2, none⟩ = some (.int .i64 fm)) (simp [go_sem, World.cell?_alloc_past, *])
        (first | (go_at_call 116; refine (HC1 _).out.mono ?_; rintro e w' ⟨rfl, hb2⟩; obtain ⟨hc2, hz2⟩ := bcell hb2))
      clear hw1 hw2
      go_wp2
      go_ret
      exact ⟨rfl, hb1.trans ((((Below.refl _ w1).alloc (Nat.le_refl _) _).drew.trans (hb2.mono (by simp))).mono hb1.size)⟩
    | changing p q L =>
      dsimp only [Crv.val] at HO HC
      go_enter Try.func42, Try.ntmps42
      go_wp2_with (fail)
      refine HO.out.mono ?_
      rintro e w1 ⟨rfl, hb1⟩
      go_wp2_with (fail)
      have hme := method_changing p q L
      have HC1 := fun w => Lib.hid ((HC w).out 118 _ (.inr ⟨rfl, rfl⟩))
      clear HC HO
      have hw1 : IntKind.i64.wrap (a2 - tk) = a2 - tk := (i64_w _).trans (w64 (by omega) (by omega))
      have hw2 : IntKind.i64.wrap (fm + v) = fm + v := (i64_w _).trans (w64 (by omega) (by omega))
      go_region_held3 (fun w' => w'.cell? ⟨w1.heap.size, 0, none⟩ = some (.iface 106 (.agg #[.int .i64 p, .int .i64 q, .int .i64 L])) ∧ w'.cell? ⟨w1.heap.size, 1, none⟩ = some (.int .i64 tk) ∧ w'.cell? ⟨w1.heap.size, 2, none⟩ = some (.int .i64 fm)) (simp [go_sem, World.cell?_alloc_past, *])
        (first | (go_at_call 118; refine (HC1 _).out.mono ?_; rintro e w' ⟨rfl, hb2⟩; obtain ⟨hc2, hz2⟩ := bcell hb2))
      clear hw1 hw2
      go_wp2
      go_ret
      exact ⟨rfl, hb1.trans ((((Below.refl _ w1).alloc (Nat.le_refl _) _).drew.trans (hb2.mono (by simp))).mono hb1.size)⟩
  · cases h
end Go.Proofs.Ytomlfbmfdoallaa.PA
