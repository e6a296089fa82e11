/- The part of a tick is the last part that begins at or before it. -/
import Derived.Test.YtomlfbmfdoallaaTb
import Derived.Test.YtomlfbmfdoallaaBlk
namespace Go.Proofs.Ytomlfbmfdoallaa.PA
open Go.RowKit Go.Shelf Go.Proofs.YtomlfbmfdoallaaW.PrintWords Go.Proofs.YtomlfbmfdoallaaW.PrintLast Go.Proofs.YtomlfbmfdoallaaW.PrintMore
set_option linter.unusedVariables false
set_option linter.unusedSimpArgs false
attribute [local go_sem] Oper.semAt_some

theorem parts_stops (n : Nat) (hn : 3 ≤ n) (Bs Bl m c : Nat) (A : Option Addr) (l : List S27) (start : Int) (hok : MapOk l) (hs0 : 0 ≤ start) (hs1 : start ≤ 1000000000) (w : World) (hm : m ≤ w.heap.size)
    (hBs : w.cell? ⟨Bs, 0, none⟩ = some (.int .i64 start)) (hBl : w.cell? ⟨Bl, 0, none⟩ = some (.slice A l.length c)) (hC : ∀ W', Below m w W' → Kd.C k27 W' A l.length l) :
    SeqStopsK Fence.wide n Try.prog 79 #[.pointer (some ⟨Bs, 0, none⟩), .pointer (some ⟨Bl, 0, none⟩)] (fun x : Prt => #[x.val]) (KQ m Bs Bl) (· = prts start l) (· <+: prts start l) l.length w := by
  intro lp J Jx W hb hJ hJx hY h0
  have h1 := World.block_lt_of_cell? _ _ hBs
  have h2 := World.block_lt_of_cell? _ _ hBl
  exact parts1_in n hn lp Bs Bl m c A l start hok hs0 hs1 J Jx hY W hJ (Nat.le_trans hm hb.size) ((hb.cell (p := ⟨Bs, 0, none⟩) h1).trans hBs) ((hb.cell (p := ⟨Bl, 0, none⟩) h2).trans hBl) (fun W' h => hC W' ((hb.mono hm).trans h)) h0

theorem parts_calls (A : Option Addr) (n c : Nat) (start : Int) (w : World) : Calls Try.prog 68 #[.slice A n c, .int .i64 start] w fun e w' =>
    e = .returned (.func (.func 79) #[] #[.pointer (some ⟨w.heap.size + 1, 0, none⟩), .pointer (some ⟨w.heap.size, 0, none⟩)]) ∧ (w.alloc (.cells #[.slice A n c] 22)).alloc (.cells #[.int .i64 start] 3) = w' := by
  have hmf : ∀ (fn : Fn) (first cap : Array Value) (w : World), (Instr.makeFunc fn first cap).run Try.prog w = .ok (.func fn first cap) w := fun _ _ _ _ => rfl
  go_enter Try.func68, Try.ntmps68
  go_wp2
  go_ret
  exact ⟨rfl, rfl⟩

theorem KQ.set {m b1 b2 : Nat} {A W : World} (h : KQ m b1 b2 A W) {a : Addr} (u : Value) (hm : m ≤ a.block) (h1 : b1 ≠ a.block) (h2 : b2 ≠ a.block) : KQ m b1 b2 A (W.setCell a u) :=
  ⟨h.below.setCell hm u, (Below.heap_setCell _ _ _ _ h1).trans h.one, (Below.heap_setCell _ _ _ _ h2).trans h.two⟩
theorem set4 (W : World) (b : Nat) (cs : Array Value) (t : TypeId) (v0 v1 v2 v3 : Value) (h : Blk W b cs t) (h4 : cs.size = 4) :
    Blk ((((W.setCell ⟨b, 0, none⟩ v0).setCell ⟨b, 1, none⟩ v1).setCell ⟨b, 2, none⟩ v2).setCell ⟨b, 3, none⟩ v3) b #[v0, v1, v2, v3] t := by
  have := (((h.set 0 v0).set 1 v1).set 2 v2).set 3 v3
  obtain ⟨l⟩ := cs
  match l, h4 with
  | [a, b, c, d], _ => exact this
/-- The part of a tick. -/
def pick (tick : Int) (l : List Prt) : Option Prt := (l.takeWhile (fun p => decide (p.tick ≤ tick))).getLast?
def Crv.valO : Option Crv → Value | none => .nilIface | some c => c.val
def prtCells : Option Prt → Array Value
  | none => #[.nilIface, .int .i64 0, .int .i64 0, .int .i64 0]
  | some x => #[x.c.val, .int .i64 x.tick, .int .i64 x.frame, .int .i64 x.fin]

theorem pick_all {tick : Int} {l : List Prt} (h : ∀ p ∈ l, p.tick ≤ tick) : pick tick l = l.getLast? := by
  unfold pick
  congr 1
  have := List.takeWhile_append_of_pos (l₂ := []) (p := fun p : Prt => decide (p.tick ≤ tick)) (l₁ := l) (by simpa using h)
  simpa using this
theorem pick_stop {tick : Int} {l pre rest : List Prt} {x : Prt} (hp : (pre ++ [x]) ++ rest = l) (h : ∀ p ∈ pre, p.tick ≤ tick) (hx : tick < x.tick) : pick tick l = pre.getLast? := by
  unfold pick
  subst hp
  rw [List.append_assoc, List.takeWhile_append_of_pos (by simpa using h)]
  simp [List.takeWhile_cons, show ¬ x.tick ≤ tick by omega]

theorem of_end (w W : World) (D : Nat) (v0 v1 v2 v3 : Value) (tmps pk : Array Value) (i1 : Blk W (w.heap.size + 1) (prtCells none) 66) (h6 : tmps.getD 6 undef = .pointer (some ⟨w.heap.size + 1, 0, none⟩)) (hD : w.heap.size + 1 < D)
    (hK : W.heap[D]? = some (.deferred (some []))) (hB : Below w.heap.size w W) (hp : pk = #[v0, v1, v2, v3]) :
    bodyPostM Fence.wide 10 Try.prog Try.f41 (fun e w' => e = Ending.returned (Value.agg pk) ∧ Below w.heap.size w w') Exit.ret { tmps := tmps, defers := [{ target := Target.collected D, args := #[] }] }
      ((((W.setCell ⟨w.heap.size + 1, 0, none⟩ v0).setCell ⟨w.heap.size + 1, 1, none⟩ v1).setCell ⟨w.heap.size + 1, 2, none⟩ v2).setCell ⟨w.heap.size + 1, 3, none⟩ v3) := by
  subst hp
  have hs := set4 W _ _ _ v0 v1 v2 v3 i1 rfl
  have hb : Below w.heap.size w ((((W.setCell ⟨w.heap.size + 1, 0, none⟩ v0).setCell ⟨w.heap.size + 1, 1, none⟩ v1).setCell ⟨w.heap.size + 1, 2, none⟩ v2).setCell ⟨w.heap.size + 1, 3, none⟩ v3) :=
    (((hB.setCell (by show _ ≤ w.heap.size + 1; omega) _).setCell (by show _ ≤ w.heap.size + 1; omega) _).setCell (by show _ ≤ w.heap.size + 1; omega) _).setCell (by show _ ≤ w.heap.size + 1; omega) _
  have hK' := ((((KeepsOthers.setCell W ⟨w.heap.size + 1, 0, none⟩ v0).trans (KeepsOthers.setCell _ ⟨w.heap.size + 1, 1, none⟩ v1)).trans (KeepsOthers.setCell _ ⟨w.heap.size + 1, 2, none⟩ v2)).trans (KeepsOthers.setCell _ ⟨w.heap.size + 1, 3, none⟩ v3)).same D _ hK rfl
  generalize ((((W.setCell ⟨w.heap.size + 1, 0, none⟩ v0).setCell ⟨w.heap.size + 1, 1, none⟩ v1).setCell ⟨w.heap.size + 1, 2, none⟩ v2).setCell ⟨w.heap.size + 1, 3, none⟩ v3) = W4 at hs hb hK' ⊢
  refine ⟨by simp, .inl ⟨_, _, rfl, run_takeDeferred hK', ?_⟩⟩
  have hs2 := hs.put (o' := .deferred none) hK' rfl
  have g0 := hs2.cell 0 (v := v0) rfl
  have g1 := hs2.cell 1 (v := v1) rfl
  have g2 := hs2.cell 2 (v := v2) rfl
  have g3 := hs2.cell 3 (v := v3) rfl
  refine ⟨.agg #[v0, v1, v2, v3], ?_, rfl, hb.trans (belowK_b (w := w) (Nat.le_refl _) W4 D _ _ (by omega) hK' rfl rfl)⟩
  have h6' : tmps[6]?.getD undef = .pointer (some ⟨w.heap.size + 1, 0, none⟩) := by simpa using h6
  simp [results, Try.f41, go_sem, h6', g0, g1, g2, g3]
set_option maxRecDepth 100000 in
set_option maxHeartbeats 2000000 in
theorem of_calls (A : Option Addr) (c : Nat) (l : List S27) (start tick : Int) (w : World) (hok : MapOk l) (hs0 : 0 ≤ start) (hs1 : start ≤ 1000000000) (hr : Kd.C k27 w A l.length l) :
    Calls Try.prog 41 #[.slice A l.length c, .int .i64 start, .int .i64 tick] w fun e w' => e = .returned (.agg (prtCells (pick tick (prts start l)))) ∧ Below w.heap.size w w' := by
  refine (callsIn_wide (n := 10)).1 ?_
  refine callsIn_of_wp_marks Try.func41 rfl trivial ?_ rfl
  simp only [Try.ntmps41, List.size_toArray, List.length_cons, List.length_nil, Nat.reduceAdd, Nat.reduceSub, Array.replicate_succ, Array.replicate_zero, List.push_toArray, List.append_toArray, List.nil_append, List.cons_append]
  gi_wp2_with (fail)
  refine ⟨trivial, (callsIn_wide.2 (parts_calls _ _ _ _ _)).mono ?_⟩
  rintro e w' ⟨rfl, hw⟩
  gi_wp2_with (fail)
  obtain ⟨W0, hW0⟩ : ∃ W0, W0 = ((w.alloc (.cells #[.int .i64 tick] 3)).alloc (.cells #[.nilIface, .int .i64 0, .int .i64 0, .int .i64 0] 66)).alloc (.cells #[.nilIface, .int .i64 0, .int .i64 0, .int .i64 0] 66) := ⟨_, rfl⟩
  have hz0 : W0.heap.size = w.heap.size + 1 + 1 + 1 := by rw [hW0]; simp
  have hb0 : Below w.heap.size w W0 := by rw [hW0]; exact (((Below.refl _ w).alloc (Nat.le_refl _) _).alloc (by simp) _).alloc (by simp; omega) _
  have k0 : Blk W0 w.heap.size #[.int .i64 tick] 3 := by rw [hW0]; exact ((Blk.new w _ _).alloc _).alloc _
  have k1 : Blk W0 (w.heap.size + 1) (prtCells none) 66 := by rw [hW0]; have := (Blk.new (w.alloc (.cells #[.int .i64 tick] 3)) (prtCells none) 66).alloc (.cells (prtCells none) 66); rw [World.size_alloc] at this; exact this
  have k2 : Blk W0 (w.heap.size + 1 + 1) (prtCells none) 66 := by rw [hW0]; have := Blk.new ((w.alloc (.cells #[.int .i64 tick] 3)).alloc (.cells (prtCells none) 66)) (prtCells none) 66; rw [World.size_alloc, World.size_alloc] at this; exact this
  rw [← hW0] at hw
  clear hW0
  have k3 : Blk w' (w.heap.size + 1 + 1 + 1) #[.slice A l.length c] 22 := by rw [← hw, ← hz0]; exact (Blk.new W0 _ _).alloc _
  have k4 : Blk w' (w.heap.size + 1 + 1 + 1 + 1) #[.int .i64 start] 3 := by
    rw [← hw, ← hz0]; have := Blk.new (W0.alloc (.cells #[.slice A l.length c] 22)) #[.int .i64 start] 3; rw [World.size_alloc] at this; exact this
  have hz1 : w'.heap.size = w.heap.size + 1 + 1 + 1 + 1 + 1 := by rw [← hw, World.size_alloc, World.size_alloc, hz0]
  replace hb0 : Below w.heap.size w w' := by rw [← hw]; exact (hb0.alloc (by omega) _).alloc (by simp; omega) _
  replace k0 : Blk w' w.heap.size #[.int .i64 tick] 3 := by rw [← hw]; exact (k0.alloc _).alloc _
  replace k1 : Blk w' (w.heap.size + 1) (prtCells none) 66 := by rw [← hw]; exact (k1.alloc _).alloc _
  replace k2 : Blk w' (w.heap.size + 1 + 1) (prtCells none) 66 := by rw [← hw]; exact (k2.alloc _).alloc _
  clear hw hz0
  refine wpIn_rangeFunc_ownH (α := Prt) rfl (by omega) (gf := 79) (lb := #[.pointer (some ⟨w.heap.size + 1 + 1 + 1 + 1, 0, none⟩), .pointer (some ⟨w.heap.size + 1 + 1 + 1, 0, none⟩)]) rfl trivial enters79
    (parts_stops 9 (by omega) (w.heap.size + 1 + 1 + 1 + 1) (w.heap.size + 1 + 1 + 1) w.heap.size c A l start hok hs0 hs1 w' hb0.size (k4.cell 0 rfl) (k3.cell 0 rfl) (fun W' h => Kd.C_below hr (hb0.trans h)))
    (fun h k => h.trans k) (fun W lp o o' hl ho _ _ => KQ.putObj o' (by omega) (by omega) (by omega) (Array.getElem?_eq_some_iff.1 ho).1) (Below.refl _ _) (fun _ => rfl)
    (fun pre W => (Blk W w.heap.size #[.int .i64 tick] 3 ∧ Blk W (w.heap.size + 1) (prtCells none) 66 ∧ Blk W (w.heap.size + 1 + 1) (prtCells pre.getLast?) 66 ∧ (∀ p ∈ pre, p.tick ≤ tick) ∧ w'.heap.size ≤ W.heap.size) ∧ Below w.heap.size w W)
    (fun cd pre W => (cd = .exit 0 ∧ ∃ pre' x, pre = pre' ++ [x] ∧ (∀ p ∈ pre', p.tick ≤ tick) ∧ tick < x.tick ∧ Blk W (w.heap.size + 1) (prtCells none) 66 ∧ Blk W (w.heap.size + 1 + 1) (prtCells pre'.getLast?) 66) ∧ Below w.heap.size w W)
    (OwnFrom.and (Own.from (fun s A B row hs hg hr => ⟨hs.1.kept hg hr, hs.2.1.kept hg hr, hs.2.2.1.kept hg hr, hs.2.2.2.1, Nat.le_trans hs.2.2.2.2 hg.size⟩) _) (ownFrom_below (Nat.le_refl _) (by omega)))
    (fun cd => OwnFrom.and (Own.from (fun s A B row hs hg hr => by obtain ⟨h1, p, x, h2, h3, h4, h5, h6⟩ := hs; exact ⟨h1, p, x, h2, h3, h4, h5.kept hg hr, h6.kept hg hr⟩) _) (ownFrom_below (Nat.le_refl _) (by omega)))
    ⟨⟨k0, k1, k2, by simp, Nat.le_refl _⟩, hb0⟩
    (fun x a' W => ∃ Bx, w'.heap.size ≤ Bx ∧ Blk W Bx (prtCells (some x)) 66 ∧ a' = { tmps := #[.slice A l.length c, .int .i64 start, .int .i64 tick, undef, undef, .pointer (some ⟨w.heap.size, 0, none⟩), .pointer (some ⟨w.heap.size + 1, 0, none⟩), .pointer (some ⟨w.heap.size + 1 + 1, 0, none⟩), .pointer (some ⟨Bx, 0, none⟩), .slice A l.length c, .int .i64 start, .func (.func 79) #[] #[.pointer (some ⟨w.heap.size + 1 + 1 + 1 + 1, 0, none⟩), .pointer (some ⟨w.heap.size + 1 + 1 + 1, 0, none⟩)], x.val, undef, undef, undef, undef, undef, undef], defers := [] })
    (fun x a' => Own.from (fun s A B row hs hg hr => by obtain ⟨Bx, h1, h2, h3⟩ := hs; exact ⟨Bx, h1, h2.kept hg hr, h3⟩) _)
    ?assign ?body ?done ?stop
  case assign =>
    rintro lp pre x W K ⟨⟨i0, i1, i2, i3, hsize⟩, hB⟩ hK
    have hsz : w'.heap.size ≤ W.heap.size := hsize
    have HK := Aside0.mk hK
    clear hK
    obtain ⟨c0, t0, f0, e0⟩ := x
    dsimp only [Prt.val]
    cases c0
    all_goals
      dsimp only [Crv.val]
      gi_wp2
      refine HK.out _ _ ((KeepsOthers.alloc _ _).from _) (KQ.then (KQ.refl _ _ _ _) ⟨hB.size, by omega, by omega⟩ ((Below.refl _ _).alloc (Nat.le_refl _) _)) ⟨⟨i0.alloc _, i1.alloc _, i2.alloc _, i3, by simp; omega⟩, hB.alloc hB.size _⟩ ⟨W.heap.size, hsz, Blk.new _ _ _, rfl⟩
  case body =>
    rintro lp pre x a' W hl hr' ⟨⟨i0, i1, i2, i3, hsize⟩, hB⟩ ⟨Bx, hBx, kx, rfl⟩ hlen
    have hlt := kx.lt
    obtain ⟨c0, t0, f0, e0⟩ := x
    have s0 : W.cell? ⟨w.heap.size, 0, none⟩ = some (.int .i64 tick) := i0.cell 0 rfl
    have s1 : W.cell? ⟨Bx, 0, none⟩ = some c0.val := kx.cell 0 rfl
    have s2 : W.cell? ⟨Bx, 1, none⟩ = some (.int .i64 t0) := kx.cell 1 rfl
    have s3 : W.cell? ⟨Bx, 2, none⟩ = some (.int .i64 f0) := kx.cell 2 rfl
    have s4 : W.cell? ⟨Bx, 3, none⟩ = some (.int .i64 e0) := kx.cell 3 rfl
    obtain ⟨o0, q0⟩ : ∃ v, W.cell? ⟨w.heap.size + 1 + 1, 0, none⟩ = some v := by cases hh : pre.getLast? <;> exact ⟨_, by rw [hh] at i2; exact i2.cell 0 rfl⟩
    obtain ⟨o1, q1⟩ : ∃ v, W.cell? ⟨w.heap.size + 1 + 1, 1, none⟩ = some v := by cases hh : pre.getLast? <;> exact ⟨_, by rw [hh] at i2; exact i2.cell 1 rfl⟩
    obtain ⟨o2, q2⟩ : ∃ v, W.cell? ⟨w.heap.size + 1 + 1, 2, none⟩ = some v := by cases hh : pre.getLast? <;> exact ⟨_, by rw [hh] at i2; exact i2.cell 2 rfl⟩
    obtain ⟨o3, q3⟩ : ∃ v, W.cell? ⟨w.heap.size + 1 + 1, 3, none⟩ = some v := by cases hh : pre.getLast? <;> exact ⟨_, by rw [hh] at i2; exact i2.cell 3 rfl⟩
    have z0 := i2.frozen 0
    have z1 := i2.frozen 1
    have z2 := i2.frozen 2
    have z3 := i2.frozen 3
    by_cases hgt : tick < t0
    · gi_wp2
      exact ⟨KeepsFrom.refl _ _, ⟨rfl, pre, _, rfl, i3, hgt, i1, i2⟩, hB⟩
    · cases c0
      all_goals
        dsimp only [Crv.val] at s1
        gi_wp2
        refine ⟨((((KeepsOthers.setCell _ _ _).trans (KeepsOthers.setCell _ _ _)).trans (KeepsOthers.setCell _ _ _)).trans (KeepsOthers.setCell _ _ _)).from _,
          ((((KQ.refl _ _ _ W).set _ ?_ ?_ ?_).set _ ?_ ?_ ?_).set _ ?_ ?_ ?_).set _ ?_ ?_ ?_,
          ⟨(((i0.other _ ?_).other _ ?_).other _ ?_).other _ ?_, (((i1.other _ ?_).other _ ?_).other _ ?_).other _ ?_, ?_, ?_, ?_⟩,
          (((hB.setCell ?_ _).setCell ?_ _).setCell ?_ _).setCell ?_ _⟩
        all_goals first
          | (show _ ≤ _; simp; omega)
          | (show _ ≠ _; simp; omega)
          | (show _ ≠ _; simp; done)
          | (rw [List.getLast?_concat]; exact set4 _ _ _ _ _ _ _ _ i2 (by cases pre.getLast? <;> rfl))
          | (intro p hp; rcases List.mem_append.1 hp with hp | hp; exact i3 p hp; rw [List.mem_singleton.1 hp]; simp; omega)
          | (simp [World.setCell]; omega)
  case done =>
    rintro D ys W hD rfl ⟨⟨i0, i1, i2, i3, hsize⟩, hB⟩ hK
    have HP := Aside0.mk (pick_all i3)
    have z0 := i1.frozen 0
    have z1 := i1.frozen 1
    have z2 := i1.frozen 2
    have z3 := i1.frozen 3
    have r0 : W.cell? ⟨w.heap.size + 1, 0, none⟩ = some .nilIface := i1.cell 0 rfl
    have r1 : W.cell? ⟨w.heap.size + 1, 1, none⟩ = some (.int .i64 0) := i1.cell 1 rfl
    have r2 : W.cell? ⟨w.heap.size + 1, 2, none⟩ = some (.int .i64 0) := i1.cell 2 rfl
    have r3 : W.cell? ⟨w.heap.size + 1, 3, none⟩ = some (.int .i64 0) := i1.cell 3 rfl
    have HK := Aside0.mk hK
    clear hK
    generalize HO : (prts start l).getLast? = o at i2 HP
    have HHO := Aside0.mk HO
    clear HO
    rcases o with _ | ⟨c0, t0, f0, e0⟩
    · have q0 : W.cell? ⟨w.heap.size + 1 + 1, 0, none⟩ = some .nilIface := i2.cell 0 rfl
      have q1 : W.cell? ⟨w.heap.size + 1 + 1, 1, none⟩ = some (.int .i64 0) := i2.cell 1 rfl
      have q2 : W.cell? ⟨w.heap.size + 1 + 1, 2, none⟩ = some (.int .i64 0) := i2.cell 2 rfl
      have q3 : W.cell? ⟨w.heap.size + 1 + 1, 3, none⟩ = some (.int .i64 0) := i2.cell 3 rfl
      gi_wp2
      exact of_end w W D _ _ _ _ _ _ i1 rfl (by omega) HK.out hB (by rw [HP.out]; rfl)
    · have q0 : W.cell? ⟨w.heap.size + 1 + 1, 0, none⟩ = some c0.val := i2.cell 0 rfl
      have q1 : W.cell? ⟨w.heap.size + 1 + 1, 1, none⟩ = some (.int .i64 t0) := i2.cell 1 rfl
      have q2 : W.cell? ⟨w.heap.size + 1 + 1, 2, none⟩ = some (.int .i64 f0) := i2.cell 2 rfl
      have q3 : W.cell? ⟨w.heap.size + 1 + 1, 3, none⟩ = some (.int .i64 e0) := i2.cell 3 rfl
      cases c0
      all_goals
        dsimp only [Crv.val] at q0
        gi_wp2
        exact of_end w W D _ _ _ _ _ _ i1 rfl (by omega) HK.out hB (by rw [HP.out]; rfl)
  case stop =>
    rintro D cd pre W hD hpre ⟨⟨rfl, pre', x, rfl, i3, hx, i1, i2⟩, hB⟩ hK
    obtain ⟨rest, hrest⟩ := hpre
    have HP := Aside0.mk (pick_stop hrest i3 hx)
    clear hrest
    have z0 := i1.frozen 0
    have z1 := i1.frozen 1
    have z2 := i1.frozen 2
    have z3 := i1.frozen 3
    have r0 : W.cell? ⟨w.heap.size + 1, 0, none⟩ = some .nilIface := i1.cell 0 rfl
    have r1 : W.cell? ⟨w.heap.size + 1, 1, none⟩ = some (.int .i64 0) := i1.cell 1 rfl
    have r2 : W.cell? ⟨w.heap.size + 1, 2, none⟩ = some (.int .i64 0) := i1.cell 2 rfl
    have r3 : W.cell? ⟨w.heap.size + 1, 3, none⟩ = some (.int .i64 0) := i1.cell 3 rfl
    have HK := Aside0.mk hK
    clear hK
    generalize HO : pre'.getLast? = o at i2 HP
    have HHO := Aside0.mk HO
    clear HO
    rcases o with _ | ⟨c0, t0, f0, e0⟩
    · have q0 : W.cell? ⟨w.heap.size + 1 + 1, 0, none⟩ = some .nilIface := i2.cell 0 rfl
      have q1 : W.cell? ⟨w.heap.size + 1 + 1, 1, none⟩ = some (.int .i64 0) := i2.cell 1 rfl
      have q2 : W.cell? ⟨w.heap.size + 1 + 1, 2, none⟩ = some (.int .i64 0) := i2.cell 2 rfl
      have q3 : W.cell? ⟨w.heap.size + 1 + 1, 3, none⟩ = some (.int .i64 0) := i2.cell 3 rfl
      gi_wp2
      exact of_end w W D _ _ _ _ _ _ i1 rfl (by omega) HK.out hB (by rw [HP.out]; rfl)
    · have q0 : W.cell? ⟨w.heap.size + 1 + 1, 0, none⟩ = some c0.val := i2.cell 0 rfl
      have q1 : W.cell? ⟨w.heap.size + 1 + 1, 1, none⟩ = some (.int .i64 t0) := i2.cell 1 rfl
      have q2 : W.cell? ⟨w.heap.size + 1 + 1, 2, none⟩ = some (.int .i64 f0) := i2.cell 2 rfl
      have q3 : W.cell? ⟨w.heap.size + 1 + 1, 3, none⟩ = some (.int .i64 e0) := i2.cell 3 rfl
      cases c0
      all_goals
        dsimp only [Crv.val] at q0
        gi_wp2
        exact of_end w W D _ _ _ _ _ _ i1 rfl (by omega) HK.out hB (by rw [HP.out]; rfl)
end Go.Proofs.Ytomlfbmfdoallaa.PA
