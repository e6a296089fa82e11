/- VideoAgrees, part 3: what the row is built on. -/
import Derived.Test.YthbajahklnpkcaaCVideoAgrees2
import Derived.Deep.RegionHeld3
import Derived.Deep.AppendLies
import Derived.Deep.DeepCutAuto
import Derived.RangeFuncBox
import Derived.Shelf.RegionOpen
import Derived.OwnWalkIn
import Derived.TacticsInMore
import Derived.LoopNIn
import Derived.LoopIn
import Derived.Maps.AppendAt
import Derived.Sort.BigQuietIn
import Derived.RangeFuncCalls
import Derived.Lib.LazyBuf
import Derived.BigQuiet
namespace Go.Proofs.Ythbajahklnpkcaa.PA
open Go.RowKit Go.Shelf Go.Sort Go.Proofs.YthbajahklnpkcaaW.PrintWords Go.Proofs.YthbajahklnpkcaaW.PrintLast Go.Proofs.YthbajahklnpkcaaW.PrintMore
set_option linter.unusedVariables false
set_option linter.unusedSimpArgs false
def EncB (base : Nat) (W : World) (x : Bd) (args : Array Value) : Prop := ∃ v, args = #[.agg #[.int .i64 x.1, .int .i64 x.2.1, v]] ∧ W.ownsRow base 145 2 v x.2.2.length (fl145 x.2.2)
def intOf : Value → Int
 | .int _ x => x
 | _ => 0
theorem max_zero (k k' : IntKind) (n : Nat) : Builtin.max2 (.int k 0) (.int k' ((n : Int) - 1)) = pure (.int k ((n - 1 : Nat) : Int)) := by
 simp only [Builtin.max2, gt_iff_lt]
 have : (if (0 : Int) < (n : Int) - 1 then (n : Int) - 1 else 0) = ((n - 1 : Nat) : Int) := by split <;> omega
 rw [this]
attribute [local go_sem] max_zero max_two
set_option maxRecDepth 100000 in
set_option maxHeartbeats 8000000 in
theorem bands3_it (m : Nat) (is : Bool → Bool → Bool) (gi : Nat) (eg : ∀ args w, (callFunc gi args).run Try.prog w = .ok (.enter gi args) w) (his : IsB gi is)
 (A B : Option Addr) (cA cB : Nat) (a b : List S43) (xs ys : List Int) (X Y : Option Addr) (cX cY pa pb pf px py N bl : Nat) (w0 w : World)
 (hlx : xs.length ≤ 1000000) (hly : ys.length ≤ 1000000)
 (env : EnvAt A B cA cB a b gi xs ys X Y cX cY pa pb pf px py (bl + 1) w)
 (hN : N = w.heap.size) (hbl : bl = w0.heap.size) (hb0 : Below w0.heap.size w0 w) (hca : Kd.C k43 w0 A a.length a) (hcb : Kd.C k43 w0 B b.length b)
 (la : bl < pa) (lb : bl < pb) (lf : bl < pf) (lx : bl < px) (ly : bl < py) :
 IterQ Fence.wide m Try.prog 141 #[.pointer (some ⟨py, 0, none⟩), .pointer (some ⟨px, 0, none⟩), .pointer (some ⟨pf, 0, none⟩), .pointer (some ⟨pa, 0, none⟩), .pointer (some ⟨pb, 0, none⟩)] (EncB N) (bandsOf is a b xs ys) (KtN N bl) TiB w := by
 intro l J W hK hT hY h0
 have KEEP := Aside0.mk (fun W' (hk : KtN N bl w W') => EnvAt.keep env hN hbl hb0 hca hcb la lb lf lx ly hk)
 have HN := Aside0.mk (show ∀ W', KtN N bl w W' → N ≤ W'.heap.size from fun W' hk => hN ▸ hk.1)
 clear env hca hcb
 have HK := Aside0.mk hK
 clear hK
 have HE := Aside0.mk (KEEP.out W HK.out)
 have cy := HE.out.by_.cell
 have cx := HE.out.bx.cell
 refine callsIn_wide.2 ?_
 go_enter Try.func141, Try.ntmps141
 go_wp2
 go_loopw [7, 8, 9, 10, 15] (fun s7 s8 s9 s10 s15 wr => ∃ i : Nat, i ≤ ys.length - 1 ∧ s15 = .int .i64 i ∧ J (bdN (spansOf is a b xs) ys i) wr ∧ Aside0 (KtN N bl w wr))
  (fun s7 s8 s9 s10 s15 wr => ys.length - (intOf s15).toNat)
 case atStart => exact ⟨0, Nat.zero_le _, rfl, h0, HK⟩
 case round =>
  obtain ⟨wo, hwo⟩ : ∃ wo, wo = wr := ⟨_, rfl⟩
  subst hwo
  obtain ⟨i, hi, rfl, hJ, HKr⟩ := hrel
  have HEr := Aside0.mk (KEEP.out wo HKr.out)
  by_cases hlt : i < ys.length - 1
  · have hltz : (i : Int) < ((ys.length - 1 : Nat) : Int) := by omega
    obtain ⟨gy, hgy⟩ := own_some HEr.out.ry (by omega)
    subst hgy
    have cyr := HEr.out.by_.cell
    have y0 := (own_cell HEr.out.ry (ints_get (show i < ys.length by omega))).1
    have y1 := (own_cell HEr.out.ry (ints_get (show i + 1 < ys.length by omega))).1
    have b0 : (0 : Int) ≤ (i : Int) := by omega
    have b1 : (i : Int) < (ys.length : Int) := by omega
    have b2 : (0 : Int) ≤ (i : Int) + 1 := by omega
    have b3 : (i : Int) + 1 < (ys.length : Int) := by omega
    have hwi : IntKind.i64.wrap ((i : Int) + 1) = (i : Int) + 1 := (i64_w _).trans (w64 (by omega) (by omega))
    have ly0 : py < wo.heap.size := HEr.out.by_.lt
    have ly1 : gy < wo.heap.size := World.block_lt_of_cell? _ _ y0
    have hxn := bdN_succ (spansOf is a b xs) ys i
    have hpre := bdN_pre (spansOf is a b xs) ys (show i < ys.length - 1 from hlt)
    generalize hu : ys.getD i 0 = u at y0 hxn hpre
    generalize hv : ys.getD (i + 1) 0 = v at y1 hxn hpre
    have HXN := Aside0.mk hxn
    have HPRE := Aside0.mk hpre
    have HU := Aside0.mk hu
    have HV := Aside0.mk hv
    clear hxn hpre hu hv
    go_wp2
    go_region_held3 (fun w' => w'.cell? ⟨py, 0, none⟩ = some (.slice (some ⟨gy, 0, none⟩) ys.length cY) ∧ w'.cell? ⟨gy, i, none⟩ = some (.int .i64 u) ∧ w'.cell? ⟨gy, i + 1, none⟩ = some (.int .i64 v)) (simp [go_sem, World.cell?_alloc_past, *]) (fail)
    have HX1 := (Blk.new wo #[.int .i64 u, .int .i64 v, .slice none 0 0] 142).drew
    have hB1 : Below wo.heap.size wo (wo.alloc (.cells #[.int .i64 u, .int .i64 v, .slice none 0 0] 142)).drew := below_drew1 ((Below.refl _ wo).alloc (Nat.le_refl _) _)
    generalize hw1 : (wo.alloc (.cells #[.int .i64 u, .int .i64 v, .slice none 0 0] 142)).drew = w1 at HX1 hB1 ⊢
    clear hw1 y0 y1 cyr b2 b3 hwi
    have HB1 := Aside0.mk hB1
    have HX1 := Aside0.mk HX1
    clear hB1
    have HE1 := Aside0.mk (HEr.out.bel HB1.out)
    have cx1 := HE1.out.bx.cell
    obtain ⟨p, hp⟩ : ∃ p : Int → Bool, p = fun x => is (covL a x u) (covL b x u) := ⟨_, rfl⟩
    have HSP : Aside0 (spansOf is a b xs u = (rowN p xs (xs.length - 1)).reverse) := ⟨by rw [hp]; rfl⟩
    have HP := Aside0.mk hp
    clear hp
    go_wp2
    go_loopw [9, 10, 32] (fun s9 s10 s32 w7 => ∃ (k : Nat) (A7 : Option Addr) (c7 : Nat), k ≤ xs.length - 1 ∧ s32 = .int .i64 k ∧ Aside0 (Below wo.heap.size wo w7) ∧ Aside0 (Blk w7 wo.heap.size #[.int .i64 u, .int .i64 v, .slice A7 (rowN p xs k).length c7] 142) ∧ Aside0 (w7.ownsRow (wo.heap.size + 1) 145 2 (.slice A7 (rowN p xs k).length c7) (rowN p xs k).length (fl145 (rowN p xs k).reverse)))
     (fun s9 s10 s32 w7 => xs.length - (intOf s32).toNat)
    case atStart => exact ⟨0, none, 0, Nat.zero_le _, rfl, HB1, HX1, ⟨World.ownsRow_nil _ _ _ _⟩⟩
    case round =>
     obtain ⟨k, A7, c7, hk, rfl, HB7, HX7, HO7⟩ := hrel
     have HE7 := Aside0.mk (HEr.out.bel HB7.out)
     have hs7 := HB7.out.size
     by_cases hlt2 : k < xs.length - 1
     · have hltz2 : (k : Int) < ((xs.length - 1 : Nat) : Int) := by omega
       obtain ⟨gx, hgx⟩ := own_some HE7.out.rx (by omega)
       subst hgx
       have cf7 := HE7.out.bf.cell
       have ca7 := HE7.out.ba.cell
       have cb7 := HE7.out.bb.cell
       have cx7 := HE7.out.bx.cell
       have cy7 := HE7.out.by_.cell
       have x0 := (own_cell HE7.out.rx (ints_get (show k < xs.length by omega))).1
       have y0 := (own_cell HE7.out.ry (ints_get (show i < ys.length by omega))).1
       rw [HU.out] at y0
       have e1 : (0 : Int) ≤ (k : Int) := by omega
       have e2 : (k : Int) < (xs.length : Int) := by omega
       have e3 : (0 : Int) ≤ (i : Int) := by omega
       have e4 : (i : Int) < (ys.length : Int) := by omega
       have hpk := HP.out
       have hst := rowN_succ p xs k
       unfold stepR at hst
       generalize hx0 : xs.getD k 0 = x0v at x0 hst
       have hpv : p x0v = is (covL a x0v u) (covL b x0v u) := by rw [hpk]
       have HST := Aside0.mk hst
       have HCa := fun W' (hb : Below wr.heap.size wr W') => Lib.hid ((covers_calls A cA a x0v u W' (Kd.C_below HE7.out.ca hb)).mono (fun e w' (h : _ ∧ _) => And.intro h.1 (hb.trans (h.2.mono hb.size))))
       have HCb := fun W' (hb : Below wr.heap.size wr W') => Lib.hid ((covers_calls B cB b x0v u W' (Kd.C_below HE7.out.cb hb)).mono (fun e w' (h : _ ∧ _) => And.intro h.1 (hb.trans (h.2.mono hb.size))))
       generalize covL a x0v u = q1 at HCa hpv
       generalize covL b x0v u = q2 at HCb hpv
       have HIs := fun W' (hb : Below wr.heap.size wr W') => Lib.hid ((his W' q1 q2).mono (fun e w' (h : _ ∧ _) => And.intro h.1 (hb.trans (h.2.mono hb.size))))
       clear hst hpk hx0
       rw [← hpv] at HIs
       clear hpv
       go_wp2
       have HC7 : ∀ w', Below wr.heap.size wr w' → w'.cell? ⟨pf, 0, none⟩ = some (.func (.func gi) #[] #[]) ∧ w'.cell? ⟨pa, 0, none⟩ = some (.slice A a.length cA) ∧ w'.cell? ⟨pb, 0, none⟩ = some (.slice B b.length cB) ∧ w'.cell? ⟨px, 0, none⟩ = some (.slice (some ⟨gx, 0, none⟩) xs.length cX) ∧ w'.cell? ⟨py, 0, none⟩ = some (.slice (some ⟨gy, 0, none⟩) ys.length cY) ∧ w'.cell? ⟨gx, k, none⟩ = some (.int .i64 x0v) ∧ w'.cell? ⟨gy, i, none⟩ = some (.int .i64 u) := by
        intro W' hb
        have hq : ∀ (n o : Nat) (v : Value), wr.cell? ⟨n, o, none⟩ = some v → W'.cell? ⟨n, o, none⟩ = some v := fun n o v h => (hb.cell (p := ⟨n, o, none⟩) (World.block_lt_of_cell? _ _ h)).trans h
        exact ⟨hq _ _ _ cf7, hq _ _ _ ca7, hq _ _ _ cb7, hq _ _ _ cx7, hq _ _ _ cy7, hq _ _ _ x0, hq _ _ _ y0⟩
       go_region_held3 (fun w' => w'.cell? ⟨pf, 0, none⟩ = some (.func (.func gi) #[] #[]) ∧ w'.cell? ⟨pa, 0, none⟩ = some (.slice A a.length cA) ∧ w'.cell? ⟨pb, 0, none⟩ = some (.slice B b.length cB) ∧ w'.cell? ⟨px, 0, none⟩ = some (.slice (some ⟨gx, 0, none⟩) xs.length cX) ∧ w'.cell? ⟨py, 0, none⟩ = some (.slice (some ⟨gy, 0, none⟩) ys.length cY) ∧ w'.cell? ⟨gx, k, none⟩ = some (.int .i64 x0v) ∧ w'.cell? ⟨gy, i, none⟩ = some (.int .i64 u)) (first | exact HC7 _ (below_drew1 (Below.refl _ _)) | exact HC7 _ h3b | exact HC7 _ h2b | exact HC7 _ h1b)
        (first
         | (go_at_call 77; first
          | (refine (HCa _ ?hb).out.mono ?_; (case hb => first | exact h2b | exact below_drew1 (Below.refl _ _) | exact Below.refl _ _); rintro e w' ⟨rfl, h1b⟩)
          | (refine (HCb _ ?hb).out.mono ?_; (case hb => first | exact h1b | exact below_drew1 (Below.refl _ _) | exact Below.refl _ _); rintro e w' ⟨rfl, h2b⟩))
         | (go_at_fn gi; refine (HIs _ ?hb).out.mono ?_; (case hb => first | exact h2b | exact h1b); rintro e w' ⟨rfl, h3b⟩))
       all_goals
        have HB9 := Aside0.mk (HB7.out.trans (h3b.mono hs7))
        have HX9 := Aside0.mk (HX7.out.below_ h3b)
        have HO9 := Aside0.mk (row_bel HO7.out h3b)
        have hgx := (h3b.cell (p := ⟨gx, k, none⟩) (World.block_lt_of_cell? _ _ x0)).trans x0
        have HE9 := Aside0.mk (HE7.out.bel h3b)
        clear h1b h2b h3b cf7 ca7 cb7 cx7 cy7 x0 y0 HC7 HCa HCb HIs HX7 HO7 HE7 HB7
        generalize p x0v = t at HST ⊢
        cases t with
        | false =>
         have hs := HST.out
         simp only [addR, Bool.false_eq_true, if_false] at hs
         go_wp2
         go_roundw
         case rel => exact ⟨k + 1, A7, c7, by omega, by go_num, HB9, by rw [hs]; exact HX9, by rw [hs]; exact HO9⟩
         case measure => simp [intOf]; omega
        | true =>
         have x1 := (own_cell HE9.out.rx (ints_get (show k + 1 < xs.length by omega))).1
         have cx9 := HE9.out.bx.cell
         have e5 : (0 : Int) ≤ (k : Int) + 1 := by omega
         have e6 : (k : Int) + 1 < (xs.length : Int) := by omega
         have hwk : IntKind.i64.wrap ((k : Int) + 1) = (k : Int) + 1 := (i64_w _).trans (w64 (by omega) (by omega))
         have lx9 := HE9.out.bx.lt
         have lg9 := World.block_lt_of_cell? _ _ x1
         have hs := HST.out
         generalize hx1 : xs.getD (k + 1) 0 = x1v at x1 hs
         have HS := Aside0.mk hs
         clear hs HST
         generalize hacc : rowN p xs k = acc at HX9 HO9 HS
         obtain ⟨nn, hnn⟩ : ∃ nn, acc.length = nn := ⟨_, rfl⟩
         obtain ⟨fs, hfs⟩ : ∃ fs, fl145 acc.reverse = fs := ⟨_, rfl⟩
         rw [hnn] at HX9 HO9
         rw [hfs] at HO9
         have z2 := HX9.out.cell 2 (v := .slice A7 nn c7) rfl
         have f2 := HX9.out.frozen 2
         have hal : nn ≤ 1000000 := by
          rw [← hnn, ← hacc]
          exact Nat.le_trans (rowN_len p xs k) (by omega)
         have HF := Aside0.mk hfs
         have HNN := Aside0.mk hnn
         clear hx1 hacc hfs hnn
         have hs9 := HB9.out.size
         obtain ⟨i5, hi5, hz50, hz51, hz52⟩ := info_parts info145
         have h63 : nn + 1 ≤ maxLen := by unfold maxLen; omega
         have hbytes : (nn + 1) * 16 ≤ 140737488355328 := by omega
         have hone : ∀ u ∈ [Value.int .i64 x0v, Value.int .i64 x1v], u.oneCell' = true := by intro u hu; simp only [List.mem_cons, List.not_mem_nil, or_false] at hu; rcases hu with rfl | rfl <;> rfl
         have lxo : wo.heap.size < w'.heap.size := HX9.out.lt
         have lgo : gx < wo.heap.size := (row_bl HEr.out.rx (k := gx) rfl).2
         have lpo : px < wo.heap.size := HEr.out.bx.lt
         have HC4 : ∀ W', Below w'.heap.size w' W' → W'.cell? ⟨px, 0, none⟩ = some (.slice (some ⟨gx, 0, none⟩) xs.length cX) ∧ W'.cell? ⟨gx, k, none⟩ = some (.int .i64 x0v) ∧ W'.cell? ⟨gx, k + 1, none⟩ = some (.int .i64 x1v) := by
          intro W' hb
          have hq : ∀ (n o : Nat) (v : Value), w'.cell? ⟨n, o, none⟩ = some v → W'.cell? ⟨n, o, none⟩ = some v := fun n o v h => (hb.cell (p := ⟨n, o, none⟩) (World.block_lt_of_cell? _ _ h)).trans h
          exact ⟨hq _ _ _ cx9, hq _ _ _ hgx, hq _ _ _ x1⟩
         have HG4 : ∀ W1 W', Below w'.heap.size w' W1 → W1.grownBy W' (Value.slice A7 nn c7).ownBlock → W'.cell? ⟨px, 0, none⟩ = some (.slice (some ⟨gx, 0, none⟩) xs.length cX) ∧ W'.cell? ⟨gx, k, none⟩ = some (.int .i64 x0v) ∧ W'.cell? ⟨gx, k + 1, none⟩ = some (.int .i64 x1v) := by
          intro W1 W' hb hg
          obtain ⟨j2, j3, j4⟩ := HC4 W1 hb
          have hne : ∀ n : Nat, n ≤ wo.heap.size → some n ≠ (Value.slice A7 nn c7).ownBlock := fun n hn e => by have := (row_bl HO9.out e.symm).1; omega
          have hq : ∀ (n o : Nat) (v : Value), n ≤ wo.heap.size → W1.cell? ⟨n, o, none⟩ = some v → W'.cell? ⟨n, o, none⟩ = some v := fun n o v hn h => (World.cell?_of_block (hg.block n (World.block_lt_of_cell? _ _ h) (hne n hn))).trans h
          exact ⟨hq _ _ _ (by omega) j2, hq _ _ _ (by omega) j3, hq _ _ _ (by omega) j4⟩
         have HT4 : ∀ W1 W' vv, Below w'.heap.size w' W1 → W1.grownBy W' (Value.slice A7 nn c7).ownBlock → (W'.setCell ⟨wo.heap.size, 2, none⟩ vv).cell? ⟨px, 0, none⟩ = some (.slice (some ⟨gx, 0, none⟩) xs.length cX) ∧ (W'.setCell ⟨wo.heap.size, 2, none⟩ vv).cell? ⟨gx, k, none⟩ = some (.int .i64 x0v) ∧ (W'.setCell ⟨wo.heap.size, 2, none⟩ vv).cell? ⟨gx, k + 1, none⟩ = some (.int .i64 x1v) := by
          intro W1 W' vv hb hg
          obtain ⟨j2, j3, j4⟩ := HG4 W1 W' hb hg
          have hq : ∀ (n o : Nat) (v : Value), n < wo.heap.size → W'.cell? ⟨n, o, none⟩ = some v → (W'.setCell ⟨wo.heap.size, 2, none⟩ vv).cell? ⟨n, o, none⟩ = some v := fun n o v hn h => (World.cell?_of_block (Below.heap_setCell W' ⟨wo.heap.size, 2, none⟩ vv n (by simp; omega))).trans h
          exact ⟨hq _ _ _ lpo j2, hq _ _ _ lgo j3, hq _ _ _ lgo j4⟩
         have hz2 : ∀ n, (w'.drewN n).cell? ⟨wo.heap.size, 2, none⟩ = some (.slice A7 nn c7) := fun n => z2
         have hz3 : ∀ n o, ((w'.drewN n).alloc o).cell? ⟨wo.heap.size, 2, none⟩ = some (.slice A7 nn c7) := fun n o => (World.cell?_alloc_lt _ _ _ lxo).trans z2
         have HK4 : ∀ W1 W', Below w'.heap.size w' W1 → W1.grownBy W' (Value.slice A7 nn c7).ownBlock → Blk W' wo.heap.size #[.int .i64 u, .int .i64 v, .slice A7 nn c7] 142 := by
          intro W1 W' hb hg
          have hx := HX9.out.below hb lxo
          exact hx.same (hg.block _ hx.lt (fun e => by have := (row_bl HO9.out e.symm).1; omega))
         by_cases hn0 : nn = 0
         · subst hn0
           have hnil : acc = [] := List.length_eq_zero_iff.1 HNN.out
           go_wp2
           repeat (go_quiet (fail); try go_wp2)
           refine wp_region_held_drew (S := (fun W' => W'.cell? ⟨px, 0, none⟩ = some (.slice (some ⟨gx, 0, none⟩) xs.length cX) ∧ W'.cell? ⟨gx, k, none⟩ = some (.int .i64 x0v) ∧ W'.cell? ⟨gx, k + 1, none⟩ = some (.int .i64 x1v))) (by kernel_rfl) ?_ (fun hHeld => ?_)
           · try dsimp only
             first | exact HC4 _ (below_drew1 (Below.refl _ _)) | exact HC4 _ (below_drew1 (pw_below_drewN (Below.refl _ _) _)) | exact HC4 _ (pw_below_drewN (Below.refl _ _) _) | exact HC4 _ ((pw_below_drewN (Below.refl _ _) _).alloc (Nat.le_refl _) _) | exact HG4 _ _ ((pw_below_drewN (Below.refl _ _) _).alloc (Nat.le_refl _) _) hgrow5 | exact HT4 _ _ _ ((pw_below_drewN (Below.refl _ _) _).alloc (Nat.le_refl _) _) hgrow5
           refine wpAnyH_take (i := 0) (v := ?_) rfl (by kernel_rfl) (by kernel_rfl) (by kernel_rfl) (fun _ _ _ h => h) (Or.inl ⟨by rfl, ?_⟩) (by assumption) ?_
           rotate_left
           · intro w hSw
             try dsimp only at hSw
             first | (go_simp; done) | (go_simp; with_reducible rfl)
           try simp only [Act.put, List.setIfInBounds_toArray, List.set_cons_zero, List.set_cons_succ]
           refine wpAnyH_take (i := 2) (v := ?_) rfl (by kernel_rfl) (by kernel_rfl) (by kernel_rfl) (fun _ _ _ h => h) (Or.inl ⟨by rfl, ?_⟩) (by assumption) ?_
           rotate_left
           · intro w hSw
             try dsimp only at hSw
             first | (go_simp; done) | (go_simp; with_reducible rfl)
           try simp only [Act.put, List.setIfInBounds_toArray, List.set_cons_zero, List.set_cons_succ]
           refine wpAnyH_take (i := 3) (v := ?_) rfl (by kernel_rfl) (by kernel_rfl) (by kernel_rfl) (fun _ _ _ h => h) (Or.inl ⟨by rfl, ?_⟩) (by assumption) ?_
           rotate_left
           · intro w hSw
             try dsimp only at hSw
             first | (go_simp; done) | (go_simp; with_reducible rfl)
           try simp only [Act.put, List.setIfInBounds_toArray, List.set_cons_zero, List.set_cons_succ]
           refine wpAnyH_take (i := 4) (v := ?_) rfl (by kernel_rfl) (by kernel_rfl) (by kernel_rfl) (fun _ _ _ h => h) (Or.inl ⟨by rfl, ?_⟩) (by assumption) ?_
           rotate_left
           · intro w hSw
             try dsimp only at hSw
             first | (go_simp; done) | (go_simp; with_reducible rfl)
           try simp only [Act.put, List.setIfInBounds_toArray, List.set_cons_zero, List.set_cons_succ]
           refine wpAnyH_take (i := 5) (v := ?_) rfl (by kernel_rfl) (by kernel_rfl) (by kernel_rfl) (fun _ _ _ h => h) (Or.inl ⟨by rfl, ?_⟩) (by assumption) ?_
           rotate_left
           · intro w hSw
             try dsimp only at hSw
             first | (go_simp; done) | (go_simp; with_reducible rfl)
           try simp only [Act.put, List.setIfInBounds_toArray, List.set_cons_zero, List.set_cons_succ]
           refine wpAnyH_take (i := 6) (v := ?_) rfl (by kernel_rfl) (by kernel_rfl) (by kernel_rfl) (fun _ _ _ h => h) (Or.inl ⟨by rfl, ?_⟩) (by assumption) ?_
           rotate_left
           · intro w hSw
             try dsimp only at hSw
             first | (go_simp; done) | (go_simp; with_reducible rfl)
           try simp only [Act.put, List.setIfInBounds_toArray, List.set_cons_zero, List.set_cons_succ]
           refine wpAnyH_take (i := 7) (v := ?_) rfl (by kernel_rfl) (by kernel_rfl) (by kernel_rfl) (fun _ _ _ h => h) (Or.inl ⟨by rfl, ?_⟩) (by assumption) ?_
           rotate_left
           · intro w hSw
             try dsimp only at hSw
             first | (go_simp; done) | (go_simp; with_reducible rfl)
           try simp only [Act.put, List.setIfInBounds_toArray, List.set_cons_zero, List.set_cons_succ]
           refine wpAnyH_take (i := 8) (v := ?_) rfl (by kernel_rfl) (by kernel_rfl) (by kernel_rfl) (fun _ _ _ h => h) (Or.inl ⟨by rfl, ?_⟩) (by assumption) ?_
           rotate_left
           · intro w hSw
             try dsimp only at hSw
             first | (go_simp; done) | (go_simp; with_reducible rfl)
           try simp only [Act.put, List.setIfInBounds_toArray, List.set_cons_zero, List.set_cons_succ]
           refine wpAnyH_take (i := 9) (v := ?_) rfl (by kernel_rfl) (by kernel_rfl) (by kernel_rfl) (fun _ _ _ h => h) (Or.inl ⟨by rfl, ?_⟩) (by assumption) ?_
           rotate_left
           · intro w hSw
             try dsimp only at hSw
             first | (go_simp; done) | (go_simp; with_reducible rfl)
           try simp only [Act.put, List.setIfInBounds_toArray, List.set_cons_zero, List.set_cons_succ]
           refine wpAnyH_take (i := 10) (v := ?_) rfl (by kernel_rfl) (by kernel_rfl) (by kernel_rfl) (fun _ _ _ h => h) (Or.inl ⟨by rfl, ?_⟩) (by assumption) ?_
           rotate_left
           · intro w hSw
             try dsimp only at hSw
             first | (go_simp; done) | (go_simp; with_reducible rfl)
           try simp only [Act.put, List.setIfInBounds_toArray, List.set_cons_zero, List.set_cons_succ]
           refine wpAnyH_take (i := 11) (v := ?_) rfl (by kernel_rfl) (by kernel_rfl) (by kernel_rfl) (fun _ _ _ h => h) (Or.inl ⟨by rfl, ?_⟩) (by assumption) ?_
           rotate_left
           · intro w hSw
             try dsimp only at hSw
             first | (go_simp; done) | (go_simp; with_reducible rfl)
           try simp only [Act.put, List.setIfInBounds_toArray, List.set_cons_zero, List.set_cons_succ]
           refine wpAnyH_ready (rs := [1, 12]) (by kernel_rfl) (by simp) ?_
           refine AllReadyH.cons rfl (fun K hK => ?_) (AllReadyH.cons rfl (fun K hK => ?_) AllReadyH.nil)
           · go_simp
             refine hK.out _ _ ?_ (fun hHeld => ?_)
             · try dsimp only
               first | exact HC4 _ (below_drew1 (Below.refl _ _)) | exact HC4 _ (below_drew1 (pw_below_drewN (Below.refl _ _) _)) | exact HC4 _ (pw_below_drewN (Below.refl _ _) _) | exact HC4 _ ((pw_below_drewN (Below.refl _ _) _).alloc (Nat.le_refl _) _) | exact HG4 _ _ ((pw_below_drewN (Below.refl _ _) _).alloc (Nat.le_refl _) _) hgrow5 | exact HT4 _ _ _ ((pw_below_drewN (Below.refl _ _) _).alloc (Nat.le_refl _) _) hgrow5
             clear hK K
             try simp only [Act.put, List.setIfInBounds_toArray, List.set_cons_zero, List.set_cons_succ]
             refine wpAnyH_ready (rs := [12]) (by kernel_rfl) (by simp) ?_
             refine AllReadyH.cons rfl (fun K hK => ?_) AllReadyH.nil
             go_simp
             refine hK.out _ _ ?_ (fun hHeld => ?_)
             · try dsimp only
               first | exact HC4 _ (below_drew1 (Below.refl _ _)) | exact HC4 _ (below_drew1 (pw_below_drewN (Below.refl _ _) _)) | exact HC4 _ (pw_below_drewN (Below.refl _ _) _) | exact HC4 _ ((pw_below_drewN (Below.refl _ _) _).alloc (Nat.le_refl _) _) | exact HG4 _ _ ((pw_below_drewN (Below.refl _ _) _).alloc (Nat.le_refl _) _) hgrow5 | exact HT4 _ _ _ ((pw_below_drewN (Below.refl _ _) _).alloc (Nat.le_refl _) _) hgrow5
             clear hK K
             try simp only [Act.put, List.setIfInBounds_toArray, List.set_cons_zero, List.set_cons_succ]
             refine wpAnyH_ready (rs := [13]) (by kernel_rfl) (by simp) ?_
             refine AllReadyH.cons rfl (fun K hK => ?_) AllReadyH.nil
             (refine step_append_lies _ (by rfl) _ _ _ (by rfl) (wo.heap.size + 1) 145 i5 (.agg #[.int .i64 0, .int .i64 0]) 2 16 Try.underlying140 hi5 hz50 hz51 hz52 rfl (by omega) (.slice A7 0 c7) 0 fs (by rfl) (HO9.out.alloc _) ⟨w'.heap.size, 0, none⟩ 1 1 [.int .i64 x0v, .int .i64 x1v] (by rfl) (by rfl) (news2 _ _ _ _ _ (World.alloc_heap_new _ _)) hone (by omega) h63 hbytes (by simp; omega) (w'.heap.size + 1) (by simp) ?_; intro g5 cap5 w5 hown5 hgrow5 hat5 hlt5; have hx5 := HK4 _ _ ((pw_below_drewN (Below.refl _ _) _).alloc (Nat.le_refl _) _) hgrow5; have z5 := hx5.cell 2 (v := .slice A7 0 c7) rfl; have f5 := hx5.frozen 2)
             refine hK.out _ _ ?_ (fun hHeld => ?_)
             · try dsimp only
               first | exact HC4 _ (below_drew1 (Below.refl _ _)) | exact HC4 _ (below_drew1 (pw_below_drewN (Below.refl _ _) _)) | exact HC4 _ (pw_below_drewN (Below.refl _ _) _) | exact HC4 _ ((pw_below_drewN (Below.refl _ _) _).alloc (Nat.le_refl _) _) | exact HG4 _ _ ((pw_below_drewN (Below.refl _ _) _).alloc (Nat.le_refl _) _) hgrow5 | exact HT4 _ _ _ ((pw_below_drewN (Below.refl _ _) _).alloc (Nat.le_refl _) _) hgrow5
             clear hK K
             try simp only [Act.put, List.setIfInBounds_toArray, List.set_cons_zero, List.set_cons_succ]
             refine wpAnyH_take (i := 14) (v := ?_) rfl (by kernel_rfl) (by kernel_rfl) (by kernel_rfl) (fun _ _ _ h => h) (Or.inl ⟨by rfl, ?_⟩) (by assumption) ?_
             rotate_left
             · intro w hSw
               try dsimp only at hSw
               first | (go_simp; done) | (go_simp; with_reducible rfl)
             try simp only [Act.put, List.setIfInBounds_toArray, List.set_cons_zero, List.set_cons_succ]
             refine wpAnyH_ready (rs := [15]) (by kernel_rfl) (by simp) ?_
             refine AllReadyH.cons rfl (fun K hK => ?_) AllReadyH.nil
             go_simp
             refine hK.out _ _ ?_ (fun hHeld => ?_)
             · try dsimp only
               first | exact HC4 _ (below_drew1 (Below.refl _ _)) | exact HC4 _ (below_drew1 (pw_below_drewN (Below.refl _ _) _)) | exact HC4 _ (pw_below_drewN (Below.refl _ _) _) | exact HC4 _ ((pw_below_drewN (Below.refl _ _) _).alloc (Nat.le_refl _) _) | exact HG4 _ _ ((pw_below_drewN (Below.refl _ _) _).alloc (Nat.le_refl _) _) hgrow5 | exact HT4 _ _ _ ((pw_below_drewN (Below.refl _ _) _).alloc (Nat.le_refl _) _) hgrow5
             clear hK K
             try simp only [Act.put, List.setIfInBounds_toArray, List.set_cons_zero, List.set_cons_succ]
             refine wpAnyH_done (by kernel_rfl) ?_ _
             have hadd : rowN p xs (k + 1) = (x0v, x1v) :: acc := by rw [HS.out, hnil]; rfl
             have hlen : (rowN p xs (k + 1)).length = 0 + 1 := by rw [hadd, List.length_cons, HNN.out]
             have hfl : fl145 (rowN p xs (k + 1)).reverse = fs ++ [.int .i64 x0v, .int .i64 x1v] := by rw [hadd, List.reverse_cons, fl145_snoc, HF.out]
             have hge5 := (row_bl hown5 (k := g5) rfl).1
             go_wp2
             go_roundw
             case measure => simp [intOf]; omega
             case rel =>
              refine ⟨k + 1, some ⟨g5, 0, none⟩, cap5, by omega, by go_num, ⟨?_⟩, ⟨?_⟩, ⟨?_⟩⟩
              · exact ((grown_below ((pw_below_drewN HB9.out _).alloc (Nat.le_trans HB9.out.size (Nat.le_refl _)) _) (by have := HB9.out.size; simp; omega) hgrow5 (fun kk hk => by have := (row_bl HO9.out hk).1; omega))).setCell (p := ⟨wo.heap.size, 2, none⟩) (Nat.le_refl _) _
              · rw [hlen]; exact hx5.set 2 _
              · rw [hlen, hfl]
                refine row_same hown5 (fun kk hk => Below.heap_setCell w5 ⟨wo.heap.size, 2, none⟩ _ kk ?_)
                have := (row_bl hown5 hk).1
                show kk ≠ wo.heap.size
                omega
           · go_simp
             refine hK.out _ _ ?_ (fun hHeld => ?_)
             · try dsimp only
               first | exact HC4 _ (below_drew1 (Below.refl _ _)) | exact HC4 _ (below_drew1 (pw_below_drewN (Below.refl _ _) _)) | exact HC4 _ (pw_below_drewN (Below.refl _ _) _) | exact HC4 _ ((pw_below_drewN (Below.refl _ _) _).alloc (Nat.le_refl _) _) | exact HG4 _ _ ((pw_below_drewN (Below.refl _ _) _).alloc (Nat.le_refl _) _) hgrow5 | exact HT4 _ _ _ ((pw_below_drewN (Below.refl _ _) _).alloc (Nat.le_refl _) _) hgrow5
             clear hK K
             try simp only [Act.put, List.setIfInBounds_toArray, List.set_cons_zero, List.set_cons_succ]
             refine wpAnyH_ready (rs := [1]) (by kernel_rfl) (by simp) ?_
             refine AllReadyH.cons rfl (fun K hK => ?_) AllReadyH.nil
             go_simp
             refine hK.out _ _ ?_ (fun hHeld => ?_)
             · try dsimp only
               first | exact HC4 _ (below_drew1 (Below.refl _ _)) | exact HC4 _ (below_drew1 (pw_below_drewN (Below.refl _ _) _)) | exact HC4 _ (pw_below_drewN (Below.refl _ _) _) | exact HC4 _ ((pw_below_drewN (Below.refl _ _) _).alloc (Nat.le_refl _) _) | exact HG4 _ _ ((pw_below_drewN (Below.refl _ _) _).alloc (Nat.le_refl _) _) hgrow5 | exact HT4 _ _ _ ((pw_below_drewN (Below.refl _ _) _).alloc (Nat.le_refl _) _) hgrow5
             clear hK K
             try simp only [Act.put, List.setIfInBounds_toArray, List.set_cons_zero, List.set_cons_succ]
             refine wpAnyH_ready (rs := [13]) (by kernel_rfl) (by simp) ?_
             refine AllReadyH.cons rfl (fun K hK => ?_) AllReadyH.nil
             (refine step_append_lies _ (by rfl) _ _ _ (by rfl) (wo.heap.size + 1) 145 i5 (.agg #[.int .i64 0, .int .i64 0]) 2 16 Try.underlying140 hi5 hz50 hz51 hz52 rfl (by omega) (.slice A7 0 c7) 0 fs (by rfl) (HO9.out.alloc _) ⟨w'.heap.size, 0, none⟩ 1 1 [.int .i64 x0v, .int .i64 x1v] (by rfl) (by rfl) (news2 _ _ _ _ _ (World.alloc_heap_new _ _)) hone (by omega) h63 hbytes (by simp; omega) (w'.heap.size + 1) (by simp) ?_; intro g5 cap5 w5 hown5 hgrow5 hat5 hlt5; have hx5 := HK4 _ _ ((pw_below_drewN (Below.refl _ _) _).alloc (Nat.le_refl _) _) hgrow5; have z5 := hx5.cell 2 (v := .slice A7 0 c7) rfl; have f5 := hx5.frozen 2)
             refine hK.out _ _ ?_ (fun hHeld => ?_)
             · try dsimp only
               first | exact HC4 _ (below_drew1 (Below.refl _ _)) | exact HC4 _ (below_drew1 (pw_below_drewN (Below.refl _ _) _)) | exact HC4 _ (pw_below_drewN (Below.refl _ _) _) | exact HC4 _ ((pw_below_drewN (Below.refl _ _) _).alloc (Nat.le_refl _) _) | exact HG4 _ _ ((pw_below_drewN (Below.refl _ _) _).alloc (Nat.le_refl _) _) hgrow5 | exact HT4 _ _ _ ((pw_below_drewN (Below.refl _ _) _).alloc (Nat.le_refl _) _) hgrow5
             clear hK K
             try simp only [Act.put, List.setIfInBounds_toArray, List.set_cons_zero, List.set_cons_succ]
             refine wpAnyH_take (i := 14) (v := ?_) rfl (by kernel_rfl) (by kernel_rfl) (by kernel_rfl) (fun _ _ _ h => h) (Or.inl ⟨by rfl, ?_⟩) (by assumption) ?_
             rotate_left
             · intro w hSw
               try dsimp only at hSw
               first | (go_simp; done) | (go_simp; with_reducible rfl)
             try simp only [Act.put, List.setIfInBounds_toArray, List.set_cons_zero, List.set_cons_succ]
             refine wpAnyH_ready (rs := [15]) (by kernel_rfl) (by simp) ?_
             refine AllReadyH.cons rfl (fun K hK => ?_) AllReadyH.nil
             go_simp
             refine hK.out _ _ ?_ (fun hHeld => ?_)
             · try dsimp only
               first | exact HC4 _ (below_drew1 (Below.refl _ _)) | exact HC4 _ (below_drew1 (pw_below_drewN (Below.refl _ _) _)) | exact HC4 _ (pw_below_drewN (Below.refl _ _) _) | exact HC4 _ ((pw_below_drewN (Below.refl _ _) _).alloc (Nat.le_refl _) _) | exact HG4 _ _ ((pw_below_drewN (Below.refl _ _) _).alloc (Nat.le_refl _) _) hgrow5 | exact HT4 _ _ _ ((pw_below_drewN (Below.refl _ _) _).alloc (Nat.le_refl _) _) hgrow5
             clear hK K
             try simp only [Act.put, List.setIfInBounds_toArray, List.set_cons_zero, List.set_cons_succ]
             refine wpAnyH_done (by kernel_rfl) ?_ _
             have hadd : rowN p xs (k + 1) = (x0v, x1v) :: acc := by rw [HS.out, hnil]; rfl
             have hlen : (rowN p xs (k + 1)).length = 0 + 1 := by rw [hadd, List.length_cons, HNN.out]
             have hfl : fl145 (rowN p xs (k + 1)).reverse = fs ++ [.int .i64 x0v, .int .i64 x1v] := by rw [hadd, List.reverse_cons, fl145_snoc, HF.out]
             have hge5 := (row_bl hown5 (k := g5) rfl).1
             go_wp2
             go_roundw
             case measure => simp [intOf]; omega
             case rel =>
              refine ⟨k + 1, some ⟨g5, 0, none⟩, cap5, by omega, by go_num, ⟨?_⟩, ⟨?_⟩, ⟨?_⟩⟩
              · exact ((grown_below ((pw_below_drewN HB9.out _).alloc (Nat.le_trans HB9.out.size (Nat.le_refl _)) _) (by have := HB9.out.size; simp; omega) hgrow5 (fun kk hk => by have := (row_bl HO9.out hk).1; omega))).setCell (p := ⟨wo.heap.size, 2, none⟩) (Nat.le_refl _) _
              · rw [hlen]; exact hx5.set 2 _
              · rw [hlen, hfl]
                refine row_same hown5 (fun kk hk => Below.heap_setCell w5 ⟨wo.heap.size, 2, none⟩ _ kk ?_)
                have := (row_bl hown5 hk).1
                show kk ≠ wo.heap.size
                omega
         · obtain ⟨rn, hrn⟩ : ∃ rn, nn = rn + 1 := ⟨nn - 1, by omega⟩
           subst hrn
           obtain ⟨qs, r, hqr⟩ : ∃ qs r, acc = qs :: r := by
            cases acc with
            | nil => have := HNN.out; simp at this
            | cons q r => exact ⟨q, r, rfl⟩
           have hrl : r.length = rn := by have := HNN.out; rw [hqr] at this; simpa using this
           have hrev : acc.reverse = r.reverse ++ [qs] := by rw [hqr]; simp
           have hlast : fs[rn * 2 + 1]? = some (.int .i64 qs.2) := by
            have := fl145_last r.reverse qs
            rw [List.length_reverse, hrl] at this
            rw [← HF.out, hrev]
            exact this
           obtain ⟨g7, hg7⟩ := own_some HO9.out (by omega)
           subst hg7
           obtain ⟨zl, fl⟩ := own_cell HO9.out hlast
           have hg7o := (row_bl HO9.out (k := g7) rfl).1
           have hadd0 := HS.out
           rw [hqr] at hadd0
           obtain ⟨qa, qb⟩ := qs
           have HQ := Aside0.mk hqr
           have HRL := Aside0.mk hrl
           have HRV := Aside0.mk hrev
           clear hqr hrl hrev hlast
           simp only [addR, if_true] at hadd0
           simp only at zl
           by_cases hq : qb = x0v
           · have hqb : (qb == x0v) = true := by simpa using hq
             rw [if_pos hq] at hadd0
             have HA0 := Aside0.mk hadd0
             clear hadd0
             have jn0 : (0 : Int) ≤ (rn : Int) := by omega
             have jn1 : (rn : Int) < ((rn + 1 : Nat) : Int) := by omega
             have jn2 : (rn : Int) < (rn : Int) + 1 := by omega
             have jn3 : rn < rn + 1 := by omega
             have HP4 : ∀ W' vv, Below w'.heap.size w' W' → (W'.setCell ⟨g7, rn * 2 + 1, none⟩ vv).cell? ⟨wo.heap.size, 2, none⟩ = some (.slice (some ⟨g7, 0, none⟩) (rn + 1) c7) ∧ (W'.setCell ⟨g7, rn * 2 + 1, none⟩ vv).cell? ⟨px, 0, none⟩ = some (.slice (some ⟨gx, 0, none⟩) xs.length cX) ∧ (W'.setCell ⟨g7, rn * 2 + 1, none⟩ vv).cell? ⟨gx, k + 1, none⟩ = some (.int .i64 x1v) := by
              intro W' vv hb
              have hq : ∀ (n o : Nat) (v : Value), n ≠ g7 → w'.cell? ⟨n, o, none⟩ = some v → (W'.setCell ⟨g7, rn * 2 + 1, none⟩ vv).cell? ⟨n, o, none⟩ = some v := fun n o v hn h => (World.cell?_of_block (Below.heap_setCell W' ⟨g7, rn * 2 + 1, none⟩ vv n hn)).trans ((hb.cell (p := ⟨n, o, none⟩) (World.block_lt_of_cell? _ _ h)).trans h)
              exact ⟨hq _ _ _ (by omega) z2, hq _ _ _ (by omega) cx9, hq _ _ _ (by omega) x1⟩
             go_wp2
             repeat (go_quiet (fail); try go_wp2)
             go_region_held3 (fun W' => W'.cell? ⟨wo.heap.size, 2, none⟩ = some (.slice (some ⟨g7, 0, none⟩) (rn + 1) c7) ∧ W'.cell? ⟨px, 0, none⟩ = some (.slice (some ⟨gx, 0, none⟩) xs.length cX) ∧ W'.cell? ⟨gx, k + 1, none⟩ = some (.int .i64 x1v))
              (first | exact ⟨z2, cx9, x1⟩ | exact HP4 _ _ (pw_below_drewN (Below.refl _ _) _) | exact HP4 _ _ (below_drew1 (pw_below_drewN (Below.refl _ _) _)))
              (fail)
             all_goals
              have hadd : rowN p xs (k + 1) = (qa, x1v) :: r := HA0.out
              have hlen : (rowN p xs (k + 1)).length = rn + 1 := by rw [hadd, List.length_cons, HRL.out]
              have hfl : fl145 (rowN p xs (k + 1)).reverse = fs.set (rn * 2 + 1) (.int .i64 x1v) := by
               have h1 := fl145_set r.reverse (qa, qb) x1v
               rw [List.length_reverse, HRL.out] at h1
               rw [hadd, List.reverse_cons, ← h1, ← HRV.out, HF.out]
              go_wp2
              go_roundw
              case measure => simp [intOf]; omega
              case rel =>
               refine ⟨k + 1, some ⟨g7, 0, none⟩, c7, by omega, by go_num, ⟨?_⟩, ⟨?_⟩, ⟨?_⟩⟩
               · exact (pw_below_drewN HB9.out _).setCell (p := ⟨g7, rn * 2 + 1, none⟩) (by show wo.heap.size ≤ g7; omega) _
               · rw [hlen]
                 exact (HX9.out.drewN _).other (a := ⟨g7, rn * 2 + 1, none⟩) _ (by show wo.heap.size ≠ g7; omega)
               · rw [hlen, hfl]
                 exact own_set HO9.out _ _
           · have hqb : (qb == x0v) = false := by simpa using hq
             rw [if_neg hq] at hadd0
             have HA0 := Aside0.mk hadd0
             clear hadd0
             go_wp2
             repeat (go_quiet (fail); try go_wp2)
             refine wp_region_held_drew (S := (fun W' => W'.cell? ⟨px, 0, none⟩ = some (.slice (some ⟨gx, 0, none⟩) xs.length cX) ∧ W'.cell? ⟨gx, k, none⟩ = some (.int .i64 x0v) ∧ W'.cell? ⟨gx, k + 1, none⟩ = some (.int .i64 x1v))) (by kernel_rfl) ?_ (fun hHeld => ?_)
             · try dsimp only
               first | exact HC4 _ (below_drew1 (Below.refl _ _)) | exact HC4 _ (below_drew1 (pw_below_drewN (Below.refl _ _) _)) | exact HC4 _ (pw_below_drewN (Below.refl _ _) _) | exact HC4 _ ((pw_below_drewN (Below.refl _ _) _).alloc (Nat.le_refl _) _) | exact HG4 _ _ ((pw_below_drewN (Below.refl _ _) _).alloc (Nat.le_refl _) _) hgrow5 | exact HT4 _ _ _ ((pw_below_drewN (Below.refl _ _) _).alloc (Nat.le_refl _) _) hgrow5
             refine wpAnyH_take (i := 0) (v := ?_) rfl (by kernel_rfl) (by kernel_rfl) (by kernel_rfl) (fun _ _ _ h => h) (Or.inl ⟨by rfl, ?_⟩) (by assumption) ?_
             rotate_left
             · intro w hSw
               try dsimp only at hSw
               first | (go_simp; done) | (go_simp; with_reducible rfl)
             try simp only [Act.put, List.setIfInBounds_toArray, List.set_cons_zero, List.set_cons_succ]
             refine wpAnyH_take (i := 2) (v := ?_) rfl (by kernel_rfl) (by kernel_rfl) (by kernel_rfl) (fun _ _ _ h => h) (Or.inl ⟨by rfl, ?_⟩) (by assumption) ?_
             rotate_left
             · intro w hSw
               try dsimp only at hSw
               first | (go_simp; done) | (go_simp; with_reducible rfl)
             try simp only [Act.put, List.setIfInBounds_toArray, List.set_cons_zero, List.set_cons_succ]
             refine wpAnyH_take (i := 3) (v := ?_) rfl (by kernel_rfl) (by kernel_rfl) (by kernel_rfl) (fun _ _ _ h => h) (Or.inl ⟨by rfl, ?_⟩) (by assumption) ?_
             rotate_left
             · intro w hSw
               try dsimp only at hSw
               first | (go_simp; done) | (go_simp; with_reducible rfl)
             try simp only [Act.put, List.setIfInBounds_toArray, List.set_cons_zero, List.set_cons_succ]
             refine wpAnyH_take (i := 4) (v := ?_) rfl (by kernel_rfl) (by kernel_rfl) (by kernel_rfl) (fun _ _ _ h => h) (Or.inl ⟨by rfl, ?_⟩) (by assumption) ?_
             rotate_left
             · intro w hSw
               try dsimp only at hSw
               first | (go_simp; done) | (go_simp; with_reducible rfl)
             try simp only [Act.put, List.setIfInBounds_toArray, List.set_cons_zero, List.set_cons_succ]
             refine wpAnyH_take (i := 5) (v := ?_) rfl (by kernel_rfl) (by kernel_rfl) (by kernel_rfl) (fun _ _ _ h => h) (Or.inl ⟨by rfl, ?_⟩) (by assumption) ?_
             rotate_left
             · intro w hSw
               try dsimp only at hSw
               first | (go_simp; done) | (go_simp; with_reducible rfl)
             try simp only [Act.put, List.setIfInBounds_toArray, List.set_cons_zero, List.set_cons_succ]
             refine wpAnyH_take (i := 6) (v := ?_) rfl (by kernel_rfl) (by kernel_rfl) (by kernel_rfl) (fun _ _ _ h => h) (Or.inl ⟨by rfl, ?_⟩) (by assumption) ?_
             rotate_left
             · intro w hSw
               try dsimp only at hSw
               first | (go_simp; done) | (go_simp; with_reducible rfl)
             try simp only [Act.put, List.setIfInBounds_toArray, List.set_cons_zero, List.set_cons_succ]
             refine wpAnyH_take (i := 7) (v := ?_) rfl (by kernel_rfl) (by kernel_rfl) (by kernel_rfl) (fun _ _ _ h => h) (Or.inl ⟨by rfl, ?_⟩) (by assumption) ?_
             rotate_left
             · intro w hSw
               try dsimp only at hSw
               first | (go_simp; done) | (go_simp; with_reducible rfl)
             try simp only [Act.put, List.setIfInBounds_toArray, List.set_cons_zero, List.set_cons_succ]
             refine wpAnyH_take (i := 8) (v := ?_) rfl (by kernel_rfl) (by kernel_rfl) (by kernel_rfl) (fun _ _ _ h => h) (Or.inl ⟨by rfl, ?_⟩) (by assumption) ?_
             rotate_left
             · intro w hSw
               try dsimp only at hSw
               first | (go_simp; done) | (go_simp; with_reducible rfl)
             try simp only [Act.put, List.setIfInBounds_toArray, List.set_cons_zero, List.set_cons_succ]
             refine wpAnyH_take (i := 9) (v := ?_) rfl (by kernel_rfl) (by kernel_rfl) (by kernel_rfl) (fun _ _ _ h => h) (Or.inl ⟨by rfl, ?_⟩) (by assumption) ?_
             rotate_left
             · intro w hSw
               try dsimp only at hSw
               first | (go_simp; done) | (go_simp; with_reducible rfl)
             try simp only [Act.put, List.setIfInBounds_toArray, List.set_cons_zero, List.set_cons_succ]
             refine wpAnyH_take (i := 10) (v := ?_) rfl (by kernel_rfl) (by kernel_rfl) (by kernel_rfl) (fun _ _ _ h => h) (Or.inl ⟨by rfl, ?_⟩) (by assumption) ?_
             rotate_left
             · intro w hSw
               try dsimp only at hSw
               first | (go_simp; done) | (go_simp; with_reducible rfl)
             try simp only [Act.put, List.setIfInBounds_toArray, List.set_cons_zero, List.set_cons_succ]
             refine wpAnyH_take (i := 11) (v := ?_) rfl (by kernel_rfl) (by kernel_rfl) (by kernel_rfl) (fun _ _ _ h => h) (Or.inl ⟨by rfl, ?_⟩) (by assumption) ?_
             rotate_left
             · intro w hSw
               try dsimp only at hSw
               first | (go_simp; done) | (go_simp; with_reducible rfl)
             try simp only [Act.put, List.setIfInBounds_toArray, List.set_cons_zero, List.set_cons_succ]
             refine wpAnyH_ready (rs := [1, 12]) (by kernel_rfl) (by simp) ?_
             refine AllReadyH.cons rfl (fun K hK => ?_) (AllReadyH.cons rfl (fun K hK => ?_) AllReadyH.nil)
             · go_simp
               refine hK.out _ _ ?_ (fun hHeld => ?_)
               · try dsimp only
                 first | exact HC4 _ (below_drew1 (Below.refl _ _)) | exact HC4 _ (below_drew1 (pw_below_drewN (Below.refl _ _) _)) | exact HC4 _ (pw_below_drewN (Below.refl _ _) _) | exact HC4 _ ((pw_below_drewN (Below.refl _ _) _).alloc (Nat.le_refl _) _) | exact HG4 _ _ ((pw_below_drewN (Below.refl _ _) _).alloc (Nat.le_refl _) _) hgrow5 | exact HT4 _ _ _ ((pw_below_drewN (Below.refl _ _) _).alloc (Nat.le_refl _) _) hgrow5
               clear hK K
               try simp only [Act.put, List.setIfInBounds_toArray, List.set_cons_zero, List.set_cons_succ]
               refine wpAnyH_ready (rs := [12]) (by kernel_rfl) (by simp) ?_
               refine AllReadyH.cons rfl (fun K hK => ?_) AllReadyH.nil
               go_simp
               refine hK.out _ _ ?_ (fun hHeld => ?_)
               · try dsimp only
                 first | exact HC4 _ (below_drew1 (Below.refl _ _)) | exact HC4 _ (below_drew1 (pw_below_drewN (Below.refl _ _) _)) | exact HC4 _ (pw_below_drewN (Below.refl _ _) _) | exact HC4 _ ((pw_below_drewN (Below.refl _ _) _).alloc (Nat.le_refl _) _) | exact HG4 _ _ ((pw_below_drewN (Below.refl _ _) _).alloc (Nat.le_refl _) _) hgrow5 | exact HT4 _ _ _ ((pw_below_drewN (Below.refl _ _) _).alloc (Nat.le_refl _) _) hgrow5
               clear hK K
               try simp only [Act.put, List.setIfInBounds_toArray, List.set_cons_zero, List.set_cons_succ]
               refine wpAnyH_ready (rs := [13]) (by kernel_rfl) (by simp) ?_
               refine AllReadyH.cons rfl (fun K hK => ?_) AllReadyH.nil
               (refine step_append_lies _ (by rfl) _ _ _ (by rfl) (wo.heap.size + 1) 145 i5 (.agg #[.int .i64 0, .int .i64 0]) 2 16 Try.underlying140 hi5 hz50 hz51 hz52 rfl (by omega) (.slice (some ⟨g7, 0, none⟩) (rn + 1) c7) (rn + 1) fs (by rfl) (HO9.out.alloc _) ⟨w'.heap.size, 0, none⟩ 1 1 [.int .i64 x0v, .int .i64 x1v] (by rfl) (by rfl) (news2 _ _ _ _ _ (World.alloc_heap_new _ _)) hone (by omega) h63 hbytes (by simp; omega) (w'.heap.size + 1) (by simp) ?_; intro g5 cap5 w5 hown5 hgrow5 hat5 hlt5; have hx5 := HK4 _ _ ((pw_below_drewN (Below.refl _ _) _).alloc (Nat.le_refl _) _) hgrow5; have z5 := hx5.cell 2 (v := .slice (some ⟨g7, 0, none⟩) (rn + 1) c7) rfl; have f5 := hx5.frozen 2)
               refine hK.out _ _ ?_ (fun hHeld => ?_)
               · try dsimp only
                 first | exact HC4 _ (below_drew1 (Below.refl _ _)) | exact HC4 _ (below_drew1 (pw_below_drewN (Below.refl _ _) _)) | exact HC4 _ (pw_below_drewN (Below.refl _ _) _) | exact HC4 _ ((pw_below_drewN (Below.refl _ _) _).alloc (Nat.le_refl _) _) | exact HG4 _ _ ((pw_below_drewN (Below.refl _ _) _).alloc (Nat.le_refl _) _) hgrow5 | exact HT4 _ _ _ ((pw_below_drewN (Below.refl _ _) _).alloc (Nat.le_refl _) _) hgrow5
               clear hK K
               try simp only [Act.put, List.setIfInBounds_toArray, List.set_cons_zero, List.set_cons_succ]
               refine wpAnyH_take (i := 14) (v := ?_) rfl (by kernel_rfl) (by kernel_rfl) (by kernel_rfl) (fun _ _ _ h => h) (Or.inl ⟨by rfl, ?_⟩) (by assumption) ?_
               rotate_left
               · intro w hSw
                 try dsimp only at hSw
                 first | (go_simp; done) | (go_simp; with_reducible rfl)
               try simp only [Act.put, List.setIfInBounds_toArray, List.set_cons_zero, List.set_cons_succ]
               refine wpAnyH_ready (rs := [15]) (by kernel_rfl) (by simp) ?_
               refine AllReadyH.cons rfl (fun K hK => ?_) AllReadyH.nil
               go_simp
               refine hK.out _ _ ?_ (fun hHeld => ?_)
               · try dsimp only
                 first | exact HC4 _ (below_drew1 (Below.refl _ _)) | exact HC4 _ (below_drew1 (pw_below_drewN (Below.refl _ _) _)) | exact HC4 _ (pw_below_drewN (Below.refl _ _) _) | exact HC4 _ ((pw_below_drewN (Below.refl _ _) _).alloc (Nat.le_refl _) _) | exact HG4 _ _ ((pw_below_drewN (Below.refl _ _) _).alloc (Nat.le_refl _) _) hgrow5 | exact HT4 _ _ _ ((pw_below_drewN (Below.refl _ _) _).alloc (Nat.le_refl _) _) hgrow5
               clear hK K
               try simp only [Act.put, List.setIfInBounds_toArray, List.set_cons_zero, List.set_cons_succ]
               refine wpAnyH_done (by kernel_rfl) ?_ _
               have hadd : rowN p xs (k + 1) = (x0v, x1v) :: acc := by rw [HA0.out, HQ.out]
               have hlen : (rowN p xs (k + 1)).length = (rn + 1) + 1 := by rw [hadd, List.length_cons, HNN.out]
               have hfl : fl145 (rowN p xs (k + 1)).reverse = fs ++ [.int .i64 x0v, .int .i64 x1v] := by rw [hadd, List.reverse_cons, fl145_snoc, HF.out]
               have hge5 := (row_bl hown5 (k := g5) rfl).1
               go_wp2
               go_roundw
               case measure => simp [intOf]; omega
               case rel =>
                refine ⟨k + 1, some ⟨g5, 0, none⟩, cap5, by omega, by go_num, ⟨?_⟩, ⟨?_⟩, ⟨?_⟩⟩
                · exact ((grown_below ((pw_below_drewN HB9.out _).alloc (Nat.le_trans HB9.out.size (Nat.le_refl _)) _) (by have := HB9.out.size; simp; omega) hgrow5 (fun kk hk => by have := (row_bl HO9.out hk).1; omega))).setCell (p := ⟨wo.heap.size, 2, none⟩) (Nat.le_refl _) _
                · rw [hlen]; exact hx5.set 2 _
                · rw [hlen, hfl]
                  refine row_same hown5 (fun kk hk => Below.heap_setCell w5 ⟨wo.heap.size, 2, none⟩ _ kk ?_)
                  have := (row_bl hown5 hk).1
                  show kk ≠ wo.heap.size
                  omega
             · go_simp
               refine hK.out _ _ ?_ (fun hHeld => ?_)
               · try dsimp only
                 first | exact HC4 _ (below_drew1 (Below.refl _ _)) | exact HC4 _ (below_drew1 (pw_below_drewN (Below.refl _ _) _)) | exact HC4 _ (pw_below_drewN (Below.refl _ _) _) | exact HC4 _ ((pw_below_drewN (Below.refl _ _) _).alloc (Nat.le_refl _) _) | exact HG4 _ _ ((pw_below_drewN (Below.refl _ _) _).alloc (Nat.le_refl _) _) hgrow5 | exact HT4 _ _ _ ((pw_below_drewN (Below.refl _ _) _).alloc (Nat.le_refl _) _) hgrow5
               clear hK K
               try simp only [Act.put, List.setIfInBounds_toArray, List.set_cons_zero, List.set_cons_succ]
               refine wpAnyH_ready (rs := [1]) (by kernel_rfl) (by simp) ?_
               refine AllReadyH.cons rfl (fun K hK => ?_) AllReadyH.nil
               go_simp
               refine hK.out _ _ ?_ (fun hHeld => ?_)
               · try dsimp only
                 first | exact HC4 _ (below_drew1 (Below.refl _ _)) | exact HC4 _ (below_drew1 (pw_below_drewN (Below.refl _ _) _)) | exact HC4 _ (pw_below_drewN (Below.refl _ _) _) | exact HC4 _ ((pw_below_drewN (Below.refl _ _) _).alloc (Nat.le_refl _) _) | exact HG4 _ _ ((pw_below_drewN (Below.refl _ _) _).alloc (Nat.le_refl _) _) hgrow5 | exact HT4 _ _ _ ((pw_below_drewN (Below.refl _ _) _).alloc (Nat.le_refl _) _) hgrow5
               clear hK K
               try simp only [Act.put, List.setIfInBounds_toArray, List.set_cons_zero, List.set_cons_succ]
               refine wpAnyH_ready (rs := [13]) (by kernel_rfl) (by simp) ?_
               refine AllReadyH.cons rfl (fun K hK => ?_) AllReadyH.nil
               (refine step_append_lies _ (by rfl) _ _ _ (by rfl) (wo.heap.size + 1) 145 i5 (.agg #[.int .i64 0, .int .i64 0]) 2 16 Try.underlying140 hi5 hz50 hz51 hz52 rfl (by omega) (.slice (some ⟨g7, 0, none⟩) (rn + 1) c7) (rn + 1) fs (by rfl) (HO9.out.alloc _) ⟨w'.heap.size, 0, none⟩ 1 1 [.int .i64 x0v, .int .i64 x1v] (by rfl) (by rfl) (news2 _ _ _ _ _ (World.alloc_heap_new _ _)) hone (by omega) h63 hbytes (by simp; omega) (w'.heap.size + 1) (by simp) ?_; intro g5 cap5 w5 hown5 hgrow5 hat5 hlt5; have hx5 := HK4 _ _ ((pw_below_drewN (Below.refl _ _) _).alloc (Nat.le_refl _) _) hgrow5; have z5 := hx5.cell 2 (v := .slice (some ⟨g7, 0, none⟩) (rn + 1) c7) rfl; have f5 := hx5.frozen 2)
               refine hK.out _ _ ?_ (fun hHeld => ?_)
               · try dsimp only
                 first | exact HC4 _ (below_drew1 (Below.refl _ _)) | exact HC4 _ (below_drew1 (pw_below_drewN (Below.refl _ _) _)) | exact HC4 _ (pw_below_drewN (Below.refl _ _) _) | exact HC4 _ ((pw_below_drewN (Below.refl _ _) _).alloc (Nat.le_refl _) _) | exact HG4 _ _ ((pw_below_drewN (Below.refl _ _) _).alloc (Nat.le_refl _) _) hgrow5 | exact HT4 _ _ _ ((pw_below_drewN (Below.refl _ _) _).alloc (Nat.le_refl _) _) hgrow5
               clear hK K
               try simp only [Act.put, List.setIfInBounds_toArray, List.set_cons_zero, List.set_cons_succ]
               refine wpAnyH_take (i := 14) (v := ?_) rfl (by kernel_rfl) (by kernel_rfl) (by kernel_rfl) (fun _ _ _ h => h) (Or.inl ⟨by rfl, ?_⟩) (by assumption) ?_
               rotate_left
               · intro w hSw
                 try dsimp only at hSw
                 first | (go_simp; done) | (go_simp; with_reducible rfl)
               try simp only [Act.put, List.setIfInBounds_toArray, List.set_cons_zero, List.set_cons_succ]
               refine wpAnyH_ready (rs := [15]) (by kernel_rfl) (by simp) ?_
               refine AllReadyH.cons rfl (fun K hK => ?_) AllReadyH.nil
               go_simp
               refine hK.out _ _ ?_ (fun hHeld => ?_)
               · try dsimp only
                 first | exact HC4 _ (below_drew1 (Below.refl _ _)) | exact HC4 _ (below_drew1 (pw_below_drewN (Below.refl _ _) _)) | exact HC4 _ (pw_below_drewN (Below.refl _ _) _) | exact HC4 _ ((pw_below_drewN (Below.refl _ _) _).alloc (Nat.le_refl _) _) | exact HG4 _ _ ((pw_below_drewN (Below.refl _ _) _).alloc (Nat.le_refl _) _) hgrow5 | exact HT4 _ _ _ ((pw_below_drewN (Below.refl _ _) _).alloc (Nat.le_refl _) _) hgrow5
               clear hK K
               try simp only [Act.put, List.setIfInBounds_toArray, List.set_cons_zero, List.set_cons_succ]
               refine wpAnyH_done (by kernel_rfl) ?_ _
               have hadd : rowN p xs (k + 1) = (x0v, x1v) :: acc := by rw [HA0.out, HQ.out]
               have hlen : (rowN p xs (k + 1)).length = (rn + 1) + 1 := by rw [hadd, List.length_cons, HNN.out]
               have hfl : fl145 (rowN p xs (k + 1)).reverse = fs ++ [.int .i64 x0v, .int .i64 x1v] := by rw [hadd, List.reverse_cons, fl145_snoc, HF.out]
               have hge5 := (row_bl hown5 (k := g5) rfl).1
               go_wp2
               go_roundw
               case measure => simp [intOf]; omega
               case rel =>
                refine ⟨k + 1, some ⟨g5, 0, none⟩, cap5, by omega, by go_num, ⟨?_⟩, ⟨?_⟩, ⟨?_⟩⟩
                · exact ((grown_below ((pw_below_drewN HB9.out _).alloc (Nat.le_trans HB9.out.size (Nat.le_refl _)) _) (by have := HB9.out.size; simp; omega) hgrow5 (fun kk hk => by have := (row_bl HO9.out hk).1; omega))).setCell (p := ⟨wo.heap.size, 2, none⟩) (Nat.le_refl _) _
                · rw [hlen]; exact hx5.set 2 _
                · rw [hlen, hfl]
                  refine row_same hown5 (fun kk hk => Below.heap_setCell w5 ⟨wo.heap.size, 2, none⟩ _ kk ?_)
                  have := (row_bl hown5 hk).1
                  show kk ≠ wo.heap.size
                  omega
     · obtain rfl : k = xs.length - 1 := by omega
       have hltz2 : ¬ ((xs.length - 1 : Nat) : Int) < ((xs.length - 1 : Nat) : Int) := by omega
       have z0 := HX7.out.cell 0 (v := .int .i64 u) rfl
       have z1 := HX7.out.cell 1 (v := .int .i64 v) rfl
       have z2 := HX7.out.cell 2 (v := .slice A7 (rowN p xs (xs.length - 1)).length c7) rfl
       have henc : EncB N wr (u, v, (rowN p xs (xs.length - 1)).reverse) #[.agg #[.int .i64 u, .int .i64 v, .slice A7 (rowN p xs (xs.length - 1)).length c7]] :=
        ⟨_, rfl, by rw [List.length_reverse]; exact row_base HO7.out (by have := HN.out wo HKr.out; omega)⟩
       obtain ⟨fn, tmps, assign, body, hy, hR⟩ := hY (bdN (spansOf is a b xs) ys i) (u, v, (rowN p xs (xs.length - 1)).reverse) _ wr (hT _ _ _ hJ HB7.out) henc (by have := HPRE.out; rw [HSP.out] at this; exact this)
       go_upto_region 13 with (fail)
       refine (wpIn_wide (n := m)).1 ?_
       gi_wp2
       refine ⟨fun h => absurd h (by simp [Fence.wide]), hR.mono ?_⟩
       rintro ee W3 ⟨rfl, hJ3, hk3⟩
       gi_wp2
       go_wp2
       go_roundw
       case rel => exact ⟨i + 1, by omega, by go_num, by rw [HXN.out, HSP.out]; exact hJ3, ⟨ktN_trans HKr.out (ktN_trans (ktN_bel HB7.out) hk3)⟩⟩
       case measure => simp [intOf]; omega
  · obtain rfl : i = ys.length - 1 := by omega
    have hltz : ¬ ((ys.length - 1 : Nat) : Int) < ((ys.length - 1 : Nat) : Int) := by omega
    go_wp2
    go_end0
    exact ⟨⟨_, rfl⟩, hJ⟩
end Go.Proofs.Ythbajahklnpkcaa.PA

namespace Go.Proofs.Ythbajahklnpkcaa.PA
open Go.RowKit Go.Shelf Go.Sort Go.Proofs.YthbajahklnpkcaaW.PrintWords Go.Proofs.YthbajahklnpkcaaW.PrintLast Go.Proofs.YthbajahklnpkcaaW.PrintMore
set_option linter.unusedVariables false
set_option linter.unusedSimpArgs false
def edgX (l : List S43) : List Int := edgesL (fun r => r.f0) (fun r => wrap64 (r.f0 + r.f2)) l
def edgY (l : List S43) : List Int := edgesL (fun r => r.f1) (fun r => wrap64 (r.f1 + r.f3)) l
theorem edgesL_len (fa fb : S43 → Int) (l : List S43) : (edgesL fa fb l).length ≤ 2 * l.length := by
 have h1 := endsOf_len fa fb l
 have h2 := Lib.compact_length_le (sortI (endsOf fa fb l))
 have h3 : (sortI (endsOf fa fb l)).length = (endsOf fa fb l).length := by simp [sortI]
 unfold edgesL
 omega
theorem enters139 : ∀ args w, (callFunc 139 args).run Try.prog w = .ok (.enter 139 args) w := Go.Proofs.enters_of Try.func139 (by kernel_rfl) rfl
theorem enters140 : ∀ args w, (callFunc 140 args).run Try.prog w = .ok (.enter 140 args) w := Go.Proofs.enters_of Try.func140 (by kernel_rfl) rfl
set_option maxRecDepth 100000 in
set_option maxHeartbeats 4000000 in
theorem bands_calls (gi : Nat) (A B : Option Addr) (cA cB : Nat) (a b : List S43) (w : World) (hr : Kd.C k43 w A a.length a) (hr2 : Kd.C k43 w B b.length b) (hla : a.length ≤ 40000) (hlb : b.length ≤ 40000) :
 Calls Try.prog 124 #[.slice A a.length cA, .slice B b.length cB, .func (.func gi) #[] #[]] w fun e w' => ∃ (X Y : Option Addr) (cX cY px py : Nat),
  e = .returned (.func (.func 141) #[] #[.pointer (some ⟨py, 0, none⟩), .pointer (some ⟨px, 0, none⟩), .pointer (some ⟨w.heap.size + 1 + 1, 0, none⟩), .pointer (some ⟨w.heap.size, 0, none⟩), .pointer (some ⟨w.heap.size + 1, 0, none⟩)]) ∧
  EnvAt A B cA cB a b gi (edgX (a ++ b)) (edgY (a ++ b)) X Y cX cY w.heap.size (w.heap.size + 1) (w.heap.size + 1 + 1) px py w.heap.size w' ∧ w.heap.size ≤ px ∧ w.heap.size ≤ py ∧ Below w.heap.size w w' := by
 obtain ⟨w1, hw1⟩ : ∃ w1, ((w.alloc (.cells #[.slice A a.length cA] 22)).alloc (.cells #[.slice B b.length cB] 22)).alloc (.cells #[.func (.func gi) #[] #[]] 75) = w1 := ⟨_, rfl⟩
 have hs1 : w1.heap.size = w.heap.size + 3 := by rw [← hw1]; simp
 have hB1 : Below w.heap.size w w1 := by rw [← hw1]; exact (((Below.refl _ w).alloc (Nat.le_refl _) _).alloc (by simp) _).alloc (by simp; omega) _
 have ba : Boxed w1 w.heap.size 22 (.slice A a.length cA) := by
  rw [← hw1]; exact ((Boxed.new w 22 _).alloc _).alloc _
 have bb : Boxed w1 (w.heap.size + 1) 22 (.slice B b.length cB) := by
  have := ((Boxed.new (w.alloc (.cells #[.slice A a.length cA] 22)) 22 (.slice B b.length cB)).alloc (.cells #[.func (.func gi) #[] #[]] 75))
  rw [World.size_alloc, hw1] at this
  exact this
 have bf : Boxed w1 (w.heap.size + 1 + 1) 75 (.func (.func gi) #[] #[]) := by
  have := Boxed.new ((w.alloc (.cells #[.slice A a.length cA] 22)).alloc (.cells #[.slice B b.length cB] 22)) 75 (.func (.func gi) #[] #[])
  rw [World.size_alloc, World.size_alloc, hw1] at this
  exact this
 have ca := ba.cell
 have cb := bb.cell
 have HR := Aside0.mk (Kd.C_below hr hB1)
 have HR2 := Aside0.mk (Kd.C_below hr2 hB1)
 have BA := Aside0.mk ba
 have BB := Aside0.mk bb
 have BF := Aside0.mk bf
 have HB1 := Aside0.mk hB1
 clear hr hr2 ba bb bf hB1
 obtain ⟨w2, hw2⟩ : ∃ w2, w1.alloc (.cells #[.slice A a.length cA, .slice B b.length cB] 22) = w2 := ⟨_, rfl⟩
 have HB2 : Aside0 (Below w1.heap.size w1 w2) := ⟨by rw [← hw2]; exact (Below.refl _ _).alloc (Nat.le_refl _) _⟩
 have k2 := Blk.new w1 #[.slice A a.length cA, .slice B b.length cB] 22
 rw [hw2] at k2
 have HCC := Aside0.mk (concat_calls w1.heap.size A B cA cB a b w2 (k2.cell 0 rfl) (k2.cell 1 rfl) (Kd.C_below HR.out HB2.out) (Kd.C_below HR2.out HB2.out) (by omega) (by omega))
 rw [hs1] at HCC
 have hlab : (a ++ b).length ≤ 80000 := by simp; omega
 generalize hab : a ++ b = ab at HCC hlab
 have HAB := Aside0.mk hab
 clear hab k2
 go_enter Try.func124, Try.ntmps124
 go_wp2_with (first
  | (go_at_call 111; with_reducible refine HCC.out.mono ?_; rintro e w3 ⟨v3, rfl, hk3, hb3⟩; obtain ⟨L3, c3, rfl, hcap3, hC3⟩ := Kd.R_reads hk3; have HC3 := Aside0.mk hC3; have HB3 := Aside0.mk hb3; have hEx := Aside0.mk (edges_calls 139 _ _ enters139 x139 L3 c3 ab w3 (by omega) hC3); clear hk3 hb3 hcap3 hC3)
  | (go_at_call 128; first
   | (with_reducible refine hEx.out.mono ?_; rintro e w4 ⟨v4, rfl, ho4, hb4⟩; obtain ⟨X, cX, rfl⟩ := own_sl ho4; have HO4 := Aside0.mk ho4; have HB4 := Aside0.mk hb4; have hEy := Aside0.mk (edges_calls 140 _ _ enters140 y140 L3 c3 ab (w4.alloc (.cells #[.slice X (edgesL (fun r => r.f0) (fun r => wrap64 (r.f0 + r.f2)) ab).length cX] 32)) (by omega) (Kd.C_below HC3.out (hb4.trans (((Below.refl _ w4).alloc (Nat.le_refl _) _).mono hb4.size)))); clear ho4 hb4)
   | (with_reducible refine hEy.out.mono ?_; rintro e w5 ⟨v5, rfl, ho5, hb5⟩; obtain ⟨Y, cY, rfl⟩ := own_sl ho5; have HO5 := Aside0.mk ho5; have HB5 := Aside0.mk hb5; clear ho5 hb5)))
 go_ret
 have c3_ := HB2.out.trans (HB3.out.mono HB2.out.size)
 have c4_ := c3_.trans (HB4.out.mono c3_.size)
 have c4a := c4_.alloc c4_.size (.cells #[.slice X (edgesL (fun r => r.f0) (fun r => wrap64 (r.f0 + r.f2)) ab).length cX] 32)
 have c5_ := c4a.trans (HB5.out.mono c4a.size)
 have c6_ := c5_.alloc c5_.size (.cells #[.slice Y (edgesL (fun r => r.f1) (fun r => wrap64 (r.f1 + r.f3)) ab).length cY] 32)
 have s1 := HB1.out.size
 have s3 := c3_.size
 have s4 := c4_.size
 have s5 := c5_.size
 have s4b : w4.heap.size + 1 ≤ w5.heap.size := by have := HB5.out.size; simpa using this
 have s4c : (w4.alloc (.cells #[.slice X (edgesL (fun r => r.f0) (fun r => wrap64 (r.f0 + r.f2)) ab).length cX] 32)).heap.size = w4.heap.size + 1 := by simp
 refine ⟨X, Y, cX, cY, w4.heap.size, w5.heap.size, rfl, ⟨box_bel BA.out c6_, box_bel BB.out c6_, box_bel BF.out c6_, ?_, Boxed.new w5 32 _, ?_, ?_, Kd.C_below HR.out c6_, Kd.C_below HR2.out c6_⟩, by omega, by omega, HB1.out.trans (c6_.mono s1)⟩
 · exact (box_bel (Boxed.new w4 32 _) HB5.out).alloc _
 · exact row_base ((row_bel (HO4.out.alloc _) HB5.out).alloc _) (by omega)
 · exact row_base (HO5.out.alloc _) (by omega)
end Go.Proofs.Ythbajahklnpkcaa.PA

namespace Go.Proofs.Ythbajahklnpkcaa.PA
open Go.RowKit Go.Proofs.YthbajahklnpkcaaW.PrintWords Go.Proofs.YthbajahklnpkcaaW.PrintLast Go.Proofs.YthbajahklnpkcaaW.PrintMore
attribute [local go_sem] max2_int min2_int max_two min_two max_three min_three max_four min_four
set_option linter.unusedVariables false
set_option linter.unusedSimpArgs false
theorem eqA145 (d : Nat) (w : World) (x0 y0 : Int) (x1 y1 : Int) :
 (Op.equalIn (d + 2) 145 (.agg #[.int .i64 x0, .int .i64 x1]) (.agg #[.int .i64 y0, .int .i64 y1])).run Try.prog w = .ok (x0 == y0 && (x1 == y1)) w := by
 refine eqA_of Try.underlying145 (by kernel_rfl) ?_
 refine eqf_cons (by rfl) (by go_simp; rfl) (by go_simp; rfl) (by go_simp) ?_
 exact eqf_last (by rfl) (by go_simp; rfl) (by go_simp; rfl) (by go_simp)
end Go.Proofs.Ythbajahklnpkcaa.PA

namespace Go.Proofs.Ythbajahklnpkcaa.PA
open Go.RowKit Go.Proofs.YthbajahklnpkcaaW.PrintWords Go.Proofs.YthbajahklnpkcaaW.PrintLast Go.Proofs.YthbajahklnpkcaaW.PrintMore
attribute [local go_sem] max2_int min2_int max_two min_two max_three min_three max_four min_four
set_option linter.unusedVariables false
set_option linter.unusedSimpArgs false
attribute [local go_sem high] eqA145
def video_span.l0 : Nat → List (S145) → List (S145) → Int → Int → Option (Bool)
 | 0, _, _, _, _ => none
 | k + 1, x0, x1, x12, x13 => if x13 < x12 then (if 0 ≤ x13 then (if x13 < (x0.length : Int) then (if x13 < (x1.length : Int) then (if (!(((rd_T145 x0 x13).f0) == ((rd_T145 x1 x13).f0)) || (!(((rd_T145 x0 x13).f1) == ((rd_T145 x1 x13).f1)))) = true then (some false) else (video_span.l0 k x0 x1 x12 (wrap64 (x13 + 1)))) else (none)) else (none)) else (none)) else (some true)
def video_span.f (k : Nat) (l0 : List (S145)) (l1 : List (S145)) : Option (Bool) := if (l0.length : Int) = (l1.length : Int) then (video_span.l0 k l0 l1 (l0.length : Int) 0) else (some false)
theorem video_span.mono_l : ∀ k, (∀ y0 y1 y2 y3, LeO (video_span.l0 k y0 y1 y2 y3) (video_span.l0 (k + 1) y0 y1 y2 y3))
 | 0 => fun _ _ _ _ r h => by simp [video_span.l0] at h
 | k + 1 => by
  have ih0 := video_span.mono_l k
  · intro y0 y1 y2 y3
    unfold video_span.l0
    repeat' first
    | (with_reducible exact ih0 _ _ _ _)
    | (with_reducible exact LeO.refl _)
    | (with_reducible exact LeO.none _)
    | (with_reducible refine LeO.ite ?_ ?_)
    | (with_reducible refine LeO.bind ?_ (fun _ => ?_))
    | exact ih0 _ _ _ _
    | exact LeO.none _
    | refine LeO.ite ?_ ?_
    | refine LeO.bind ?_ (fun _ => ?_)
theorem video_span.mono : ∀ a0 a1 k, LeO (video_span.f k a0 a1) (video_span.f (k + 1) a0 a1) := by
 intro a0 a1 k
 have ih0 := video_span.mono_l k
 unfold video_span.f
 repeat' first
  | (with_reducible exact ih0 _ _ _ _)
  | (with_reducible exact LeO.refl _)
  | (with_reducible exact LeO.none _)
  | (with_reducible refine LeO.ite ?_ ?_)
  | (with_reducible refine LeO.bind ?_ (fun _ => ?_))
  | exact ih0 _ _ _ _
  | exact LeO.none _
  | refine LeO.ite ?_ ?_
  | refine LeO.bind ?_ (fun _ => ?_)
set_option maxHeartbeats 8000000 in
set_option maxRecDepth 100000 in
theorem video_span.calls (k : Nat) (A0 : Option Addr) (c0 : Nat) (l0 : List (S145)) (A1 : Option Addr) (c1 : Nat) (l1 : List (S145)) (r : Bool) (w : World) (hr0 : Kd.C k145 w A0 l0.length l0) (hc0 : l0.length ≤ c0) (hr1 : Kd.C k145 w A1 l1.length l1) (hc1 : l1.length ≤ c1) (h : video_span.f k l0 l1 = some r) :
 Calls Try.prog 125 #[.slice A0 l0.length c0, .slice A1 l1.length c1] w fun e w' => e = .returned (.bool r) ∧ Drawn0 w w' := by
 have hu145 := Try.underlying145
 have HR0 := Aside0.mk hr0
 have HC0 := Aside0.mk hc0
 clear hr0 hc0
 have HR1 := Aside0.mk hr1
 have HC1 := Aside0.mk hc1
 clear hr1 hc1
 have H : (if (l0.length : Int) = (l1.length : Int) then (video_span.l0 k l0 l1 (l0.length : Int) 0) else (some false)) = some r := h
 clear h
 by_cases c3 : (l0.length : Int) = (l1.length : Int)
 · rw [if_pos c3] at H
   have c3b0 : ((l0.length : Int) == (l1.length : Int)) = true := beq_iff_eq.mpr c3
   have c3b1 : ((l0.length : Int) != (l1.length : Int)) = false := bne_eq_false_iff_eq.mpr c3
   have c3b2 : (l0.length == l1.length) = true := by first | simpa using c3 | (simp at c3 ⊢; omega)
   clear c3
   have H' := Aside0.mk H
   clear H
   go_enter Try.func125, Try.ntmps125
   go_wp2
   repeat (go_quiet (fail); try go_wp2)
   go_loopg [13] k (fun kq v13 w' => ∃ (x13_1 : Int), v13 = .int .i64 x13_1 ∧ Aside0 (video_span.l0 kq l0 l1 (l0.length : Int) x13_1 = some r) ∧ Aside0 (kq ≤ k) ∧ Drawn0 w w')
   case atStart => exact ⟨(0), (by first | rfl | (simp; done) | (simp [*]; done)), H', ⟨Nat.le_refl _⟩, by repeat (first | exact Drawn0.refl _ | apply Drawn0.step)⟩
   case round =>
    clear H'
    try clear c1
    try clear p2
    try clear c3
    try clear c3b0
    try clear c3b1
    try clear c3b2
    obtain ⟨x13_1, rfl, HA, HK1, ⟨m1, rfl⟩⟩ := hrel
    cases gk with
    | zero => exact absurd HA.out (by simp [video_span.l0])
    | succ k1 =>
     have H := HA.out
     clear HA
     simp only [video_span.l0] at H
     by_cases c4 : x13_1 < (l0.length : Int)
     · rw [if_pos c4] at H
       have c4b0 : decide (x13_1 < (l0.length : Int)) = true := decide_eq_true c4
       clear c4
       by_cases c5 : 0 ≤ x13_1
       · rw [if_pos c5] at H
         have c5b0 : decide (0 ≤ x13_1) = true := decide_eq_true c5
         clear c5
         by_cases c6 : x13_1 < (l0.length : Int)
         · rw [if_pos c6] at H
           have c6b0 : decide (x13_1 < (l0.length : Int)) = true := decide_eq_true c6
           clear c6
           by_cases c7 : x13_1 < (l1.length : Int)
           · rw [if_pos c7] at H
             have c7b0 : decide (x13_1 < (l1.length : Int)) = true := decide_eq_true c7
             clear c7
             by_cases c8 : (!(((rd_T145 l0 x13_1).f0) == ((rd_T145 l1 x13_1).f0)) || (!(((rd_T145 l0 x13_1).f1) == ((rd_T145 l1 x13_1).f1)))) = true
             · rw [if_pos c8] at H
               have c8b0 : (!(((rd_T145 l0 x13_1).f0) == ((rd_T145 l1 x13_1).f0)) || (!(((rd_T145 l0 x13_1).f1) == ((rd_T145 l1 x13_1).f1)))) = true := c8
               clear c8
               obtain rfl := Option.some.inj H
               have p236 : 0 ≤ (x13_1 : Int) := of_decide_eq_true (by first | (with_reducible assumption) | assumption)
               have q236 : x13_1 < (l0.length : Int) := of_decide_eq_true (by first | (with_reducible assumption) | assumption)
               obtain ⟨ad236, e236, hx236_0, hx236_1⟩ := at_T145 HR0.out x13_1 p236 q236
               cases e236
               replace p236 := eq_true p236
               replace q236 := eq_true q236
               have p237 : 0 ≤ (x13_1 : Int) := of_decide_eq_true (by first | (with_reducible assumption) | assumption)
               have q237 : x13_1 < (l1.length : Int) := of_decide_eq_true (by first | (with_reducible assumption) | assumption)
               obtain ⟨ad237, e237, hx237_0, hx237_1⟩ := at_T145 HR1.out x13_1 p237 q237
               cases e237
               replace p237 := eq_true p237
               replace q237 := eq_true q237
               go_wp2
               repeat (go_quiet (fail); try go_wp2)
               go_ret
               exact ⟨by first | rfl | (simp; done) | (simp [*]; done), by repeat (first | exact Drawn0.refl _ | apply Drawn0.step)⟩
             · rw [if_neg c8] at H
               have c8b0 : (!(((rd_T145 l0 x13_1).f0) == ((rd_T145 l1 x13_1).f0)) || (!(((rd_T145 l0 x13_1).f1) == ((rd_T145 l1 x13_1).f1)))) = false := by simpa using c8
               clear c8
               have H' := Aside0.mk H
               clear H
               have p236 : 0 ≤ (x13_1 : Int) := of_decide_eq_true (by first | (with_reducible assumption) | assumption)
               have q236 : x13_1 < (l0.length : Int) := of_decide_eq_true (by first | (with_reducible assumption) | assumption)
               obtain ⟨ad236, e236, hx236_0, hx236_1⟩ := at_T145 HR0.out x13_1 p236 q236
               cases e236
               replace p236 := eq_true p236
               replace q236 := eq_true q236
               have p237 : 0 ≤ (x13_1 : Int) := of_decide_eq_true (by first | (with_reducible assumption) | assumption)
               have q237 : x13_1 < (l1.length : Int) := of_decide_eq_true (by first | (with_reducible assumption) | assumption)
               obtain ⟨ad237, e237, hx237_0, hx237_1⟩ := at_T145 HR1.out x13_1 p237 q237
               cases e237
               replace p237 := eq_true p237
               replace q237 := eq_true q237
               go_wp2
               repeat (go_quiet (fail); try go_wp2)
               go_roundg k1
               case measure => have := HK1.out; omega
               case rel => exact ⟨(wrap64 (x13_1 + 1)), (by first | rfl | (simp; done) | (simp [*]; done)), H', ⟨by have := HK1.out; omega⟩, by repeat (first | exact Drawn0.refl _ | apply Drawn0.step)⟩
           · rw [if_neg c7] at H
             exact absurd H (by simp)
         · rw [if_neg c6] at H
           exact absurd H (by simp)
       · rw [if_neg c5] at H
         exact absurd H (by simp)
     · rw [if_neg c4] at H
       have c4b0 : decide (x13_1 < (l0.length : Int)) = false := decide_eq_false c4
       clear c4
       obtain rfl := Option.some.inj H
       go_wp2
       repeat (go_quiet (fail); try go_wp2)
       go_ret
       exact ⟨by first | rfl | (simp; done) | (simp [*]; done), by repeat (first | exact Drawn0.refl _ | apply Drawn0.step)⟩
 · rw [if_neg c3] at H
   have c3b0 : ((l0.length : Int) == (l1.length : Int)) = false := beq_eq_false_iff_ne.mpr c3
   have c3b1 : ((l0.length : Int) != (l1.length : Int)) = true := bne_iff_ne.mpr c3
   have c3b2 : (l0.length == l1.length) = false := by first | simpa using c3 | (simp at c3 ⊢; omega)
   obtain rfl := Option.some.inj H
   go_enter Try.func125, Try.ntmps125
   go_wp2
   repeat (go_quiet (fail); try go_wp2)
   go_ret
   exact ⟨by first | rfl | (simp; done) | (simp [*]; done), by repeat (first | exact Drawn0.refl _ | apply Drawn0.step)⟩
end Go.Proofs.Ythbajahklnpkcaa.PA

namespace Go.Proofs.Ythbajahklnpkcaa.PA
open Go.RowKit Go.Shelf Go.Sort Go.Proofs.YthbajahklnpkcaaW.PrintWords Go.Proofs.YthbajahklnpkcaaW.PrintLast Go.Proofs.YthbajahklnpkcaaW.PrintMore
set_option linter.unusedVariables false
set_option linter.unusedSimpArgs false
def mk145 (s : Sp) : S145 := ⟨s.1, s.2⟩
theorem rd_mk (s : List Sp) (j : Nat) (h : j < s.length) : rd_T145 (s.map mk145) (j : Int) = mk145 s[j] := by
 simp [rd_T145, h]
theorem span_l0 (s t : List Sp) (hl : s.length = t.length) (hs : s.length ≤ 1000000) : ∀ (k j : Nat), j ≤ s.length → s.length - j < k → video_span.l0 k (s.map mk145) (t.map mk145) (s.length : Int) (j : Int) = some (decide (s.drop j = t.drop j))
 | 0, j, _, h => by omega
 | k + 1, j, hj, hk => by
  unfold video_span.l0
  by_cases hlt : j < s.length
  · rw [if_pos (by omega), if_pos (by omega), if_pos (by simp; omega), if_pos (by simp; omega), rd_mk s j hlt, rd_mk t j (by omega)]
    rw [List.drop_eq_getElem_cons hlt, List.drop_eq_getElem_cons (show j < t.length by omega)]
    by_cases he : s[j] = t[j]
    · have h1 : (!((mk145 s[j]).f0 == (mk145 t[j]).f0) || (!((mk145 s[j]).f1 == (mk145 t[j]).f1))) = false := by rw [he]; simp
      rw [h1, if_neg (by decide), w64 (by omega) (by omega)]
      have := span_l0 s t hl hs k (j + 1) (by omega) (by omega)
      rw [show ((j + 1 : Nat) : Int) = (j : Int) + 1 by omega] at this
      rw [this]
      exact congrArg some (decide_eq_decide.mpr ⟨fun h => by rw [he, h], fun h => (List.cons.inj h).2⟩)
    · have h1 : (!((mk145 s[j]).f0 == (mk145 t[j]).f0) || (!((mk145 s[j]).f1 == (mk145 t[j]).f1))) = true := by
       rcases Classical.em (s[j].1 = t[j].1) with h | h
       · have : s[j].2 ≠ t[j].2 := fun h' => he (Prod.ext h h')
         simp [mk145, this]
       · simp [mk145, h]
      rw [h1, if_pos rfl]
      exact congrArg some (decide_eq_false (fun h => he (List.cons.inj h).1)).symm
  · rw [if_neg (by omega), List.drop_eq_nil_of_le (by omega), List.drop_eq_nil_of_le (by omega)]
    simp
theorem span_f (s t : List Sp) (hs : s.length ≤ 1000000) : video_span.f (s.length + 1) (s.map mk145) (t.map mk145) = some (decide (s = t)) := by
 unfold video_span.f
 by_cases hl : s.length = t.length
 · rw [if_pos (by simp [hl])]
   have := span_l0 s t hl hs (s.length + 1) 0 (by omega) (by omega)
   simpa using this
 · rw [if_neg (by simp; omega)]
   congr 1
   have : s ≠ t := fun h => hl (by rw [h])
   simp [this]
theorem reps145 (W : World) (base : Nat) (ok : Nat → Prop) (l : List Sp) : Reps (k145.M W base ok) 2 (l.map mk145) (fl145 l) := by
 have key : ∀ (r a : List Sp), Reps (k145.M W base ok) 2 (a.map mk145) (fl145 a) → Reps (k145.M W base ok) 2 ((a ++ r).map mk145) (fl145 (a ++ r)) := by
  intro r
  induction r with
  | nil => intro a h; simpa using h
  | cons x r ih =>
   intro a h
   have h1 : Reps (k145.M W base ok) 2 ((a ++ [x]).map mk145) (fl145 (a ++ [x])) := by
    have := h.snoc (k145_mkM W base ok (mk145 x)) rfl
    simpa [fl145, mk145] using this
   have := ih (a ++ [x]) h1
   simpa using this
 simpa using key l [] (Reps.none _ _)
theorem span_reads {W : World} {base c n : Nat} {A : Option Addr} {l : List Sp} (h : W.ownsRow base 145 2 (.slice A n c) n (fl145 l)) (hn : n = l.length) : Kd.C k145 W A (l.map mk145).length (l.map mk145) ∧ (l.map mk145).length ≤ c := by
 subst hn
 have hR : Kd.R k145 145 W base (fun _ => True) (.slice A l.length c) (l.map mk145) := ⟨fun _ _ => trivial, fl145 l, by rw [List.length_map]; exact h, reps145 _ _ _ l⟩
 obtain ⟨h1, h2, h3⟩ := Kd.R_reads' hR
 exact ⟨h3, by rw [← h1]; exact h2⟩
theorem same125 {W : World} {base base2 c c2 n n2 : Nat} {A A2 : Option Addr} {s t : List Sp} (h : W.ownsRow base 145 2 (.slice A n c) n (fl145 s)) (hn : n = s.length) (h2 : W.ownsRow base2 145 2 (.slice A2 n2 c2) n2 (fl145 t)) (hn2 : n2 = t.length) (hs : s.length ≤ 1000000) :
 Calls Try.prog 125 #[.slice A n c, .slice A2 n2 c2] W fun e w' => e = .returned (.bool (decide (s = t))) ∧ Drawn0 W w' := by
 obtain ⟨k1, k2⟩ := span_reads h hn
 obtain ⟨k3, k4⟩ := span_reads h2 hn2
 have := video_span.calls (s.length + 1) A c (s.map mk145) A2 c2 (t.map mk145) _ W k1 k2 k3 k4 (span_f s t hs)
 rw [List.length_map, List.length_map, ← hn, ← hn2] at this
 exact this
def flB (l : List (Bd × Value)) : List Value := l.flatMap fun p => [.int .i64 p.1.1, .int .i64 p.1.2.1, p.2]
theorem flB_len (l : List (Bd × Value)) : (flB l).length = l.length * 3 := by
 induction l with
 | nil => rfl
 | cons s l ih =>
  have e : flB (s :: l) = .int .i64 s.1.1 :: .int .i64 s.1.2.1 :: s.2 :: flB l := rfl
  rw [e, List.length_cons, List.length_cons, List.length_cons, ih, List.length_cons]; omega
theorem flB_snoc (l : List (Bd × Value)) (p : Bd × Value) : flB (l ++ [p]) = flB l ++ [.int .i64 p.1.1, .int .i64 p.1.2.1, p.2] := by simp [flB]
theorem flB_last (l : List (Bd × Value)) (p : Bd × Value) : (flB (l ++ [p]))[l.length * 3 + 1]? = some (.int .i64 p.1.2.1) ∧ (flB (l ++ [p]))[l.length * 3 + 2]? = some p.2 := by
 rw [flB_snoc]
 constructor
 · rw [List.getElem?_append_right (by rw [flB_len]; omega), flB_len, show l.length * 3 + 1 - l.length * 3 = 1 by omega]; rfl
 · rw [List.getElem?_append_right (by rw [flB_len]; omega), flB_len, show l.length * 3 + 2 - l.length * 3 = 2 by omega]; rfl
theorem flB_set (l : List (Bd × Value)) (a b v : Int) (s : List Sp) (x : Value) : (flB (l ++ [((a, b, s), x)])).set (l.length * 3 + 1) (.int .i64 v) = flB (l ++ [((a, v, s), x)]) := by
 rw [flB_snoc, flB_snoc, List.set_append_right _ _ (by rw [flB_len]; omega), flB_len, show l.length * 3 + 1 - l.length * 3 = 1 by omega]
 rfl
theorem flB_get : ∀ (l : List (Bd × Value)) (i : Nat) (p : Bd × Value), l[i]? = some p → (flB l)[i * 3]? = some (.int .i64 p.1.1) ∧ (flB l)[i * 3 + 1]? = some (.int .i64 p.1.2.1) ∧ (flB l)[i * 3 + 2]? = some p.2
 | [], i, p, h => by cases h
 | q :: l, 0, p, h => by cases h; exact ⟨rfl, rfl, rfl⟩
 | q :: l, i + 1, p, h => by
  obtain ⟨h1, h2, h3⟩ := flB_get l i p h
  have e : flB (q :: l) = .int .i64 q.1.1 :: .int .i64 q.1.2.1 :: q.2 :: flB l := rfl
  have e3 : (i + 1) * 3 = i * 3 + 1 + 1 + 1 := by omega
  rw [e, e3]
  exact ⟨h1, h2, h3⟩
structure MI (w : World) (N : Nat) (acc : List Bd) (LA : Option Addr) (Lc : Nat) (bp : List (Bd × Value)) (W : World) : Prop where
 vb : Boxed W w.heap.size 136 (.slice LA bp.length Lc)
 row : W.ownsRow N 142 3 (.slice LA bp.length Lc) bp.length (flB bp)
 sps : ∀ p ∈ bp, W.ownsRow N 145 2 p.2 p.1.2.2.length (fl145 p.1.2.2)
 acc_ : bp.map (·.1) = acc.reverse
 bl : Below w.heap.size w W
 sz : N ≤ W.heap.size
section
variable {w W W' : World} {N : Nat} {acc : List Bd} {LA : Option Addr} {Lc : Nat} {bp : List (Bd × Value)}
theorem MI.bel (h : MI w N acc LA Lc bp W) (hb : Below W.heap.size W W') : MI w N acc LA Lc bp W' :=
 ⟨box_bel h.vb hb, row_bel h.row hb, fun p hp => row_bel (h.sps p hp) hb, h.acc_, h.bl.trans (hb.mono h.bl.size), Nat.le_trans h.sz hb.size⟩
theorem MI.alloc (h : MI w N acc LA Lc bp W) (o : Obj) : MI w N acc LA Lc bp (W.alloc o) := h.bel ((Below.refl _ W).alloc (Nat.le_refl _) o)
theorem MI.put (h : MI w N acc LA Lc bp W) (hN : w.heap.size < N) {l : Nat} {o : Obj} (o' : Obj) (hl : N ≤ l) (ho : W.heap[l]? = some o) (hc : o.isCells = false) : MI w N acc LA Lc bp (W.putObj l o') :=
 ⟨h.vb.kept (grownBy_putObj' W l o') (fun e => by cases e; omega), ownsRow_putObj h.row o' ho hc, fun p hp => ownsRow_putObj (h.sps p hp) o' ho hc, h.acc_,
  h.bl.grown (grownBy_putObj' W l o') h.bl.size (fun k ek => by cases ek; omega), by simpa [World.putObj] using h.sz⟩
end
end Go.Proofs.Ythbajahklnpkcaa.PA

namespace Go.Proofs.Ythbajahklnpkcaa.PA
open Go.RowKit Go.Shelf Go.Sort Go.Proofs.YthbajahklnpkcaaW.PrintWords Go.Proofs.YthbajahklnpkcaaW.PrintLast Go.Proofs.YthbajahklnpkcaaW.PrintMore
attribute [local go_sem] Oper.semAt_some
set_option linter.unusedVariables false
set_option linter.unusedSimpArgs false
theorem row_cells {W : World} {base n size : Nat} {e : TypeId} {v : Value} {xs : List Value} (h : W.ownsRow base e size v n xs) (tmp : Obj) : ∀ (j : Nat) (o : Obj), v.ownBlock = some j → (W.alloc tmp).heap[j]? = some o → o.isCells = true := by
 intro j o hj ho
 obtain ⟨cells, hc⟩ := own_typed h j hj
 rw [Below.heap_alloc W tmp j (row_bl h hj).2, hc] at ho
 cases ho
 rfl
theorem cells3_new (W : World) (a b c : Value) (t : TypeId) : ∀ j u, [a, b, c][j]? = some u → (W.alloc (.cells #[a, b, c] t)).cell? ((⟨W.heap.size, 0, none⟩ : Addr).add j) = some u := by
 intro j u h
 have HB := Blk.new W #[a, b, c] t
 match j, h with
 | 0, h => simp at h; subst h; exact HB.cell 0 rfl
 | 1, h => simp at h; subst h; exact HB.cell 1 rfl
 | 2, h => simp at h; subst h; exact HB.cell 2 rfl
 | j + 3, h => simp at h
section
variable {w W w1 : World} {N : Nat} {acc : List Bd} {LA : Option Addr} {Lc : Nat} {bp : List (Bd × Value)}
theorem MI.app (h : MI w N acc LA Lc bp W) (hN : w.heap.size < N) {tmp : Obj} {x : Bd} {vv : Value} {A2 : Option Addr} {c2 : Nat}
 (hs : W.ownsRow N 145 2 vv x.2.2.length (fl145 x.2.2)) (hne : addP acc x.1 x.2.1 x.2.2 = x :: acc) (hgrow : (W.alloc tmp).grownBy w1 (Value.slice LA bp.length Lc).ownBlock)
 (hown : w1.ownsRow N 142 3 (.slice A2 (bp.length + 1) c2) (bp.length + 1) (flB bp ++ [.int .i64 x.1, .int .i64 x.2.1, vv])) :
 MI w N (addP acc x.1 x.2.1 x.2.2) A2 c2 (bp ++ [(x, vv)]) (w1.setCell ⟨w.heap.size, 0, none⟩ (.slice A2 (bp ++ [(x, vv)]).length c2)) ∧ KeepsOthers W (w1.setCell ⟨w.heap.size, 0, none⟩ (.slice A2 (bp ++ [(x, vv)]).length c2)) ∧ KtN N w.heap.size W (w1.setCell ⟨w.heap.size, 0, none⟩ (.slice A2 (bp ++ [(x, vv)]).length c2)) := by
 have hsz := h.sz
 have hlt := h.vb.lt
 have hge : ∀ k, (Value.slice LA bp.length Lc).ownBlock = some k → N ≤ k := fun k hk => (row_bl h.row hk).1
 have hs1 : W.heap.size + 1 ≤ w1.heap.size := by have := hgrow.size; simpa using this
 have hvb : Boxed w1 w.heap.size 136 (.slice LA bp.length Lc) := (h.vb.alloc tmp).kept hgrow (fun e => by have := hge _ e.symm; omega)
 have hrow : ∀ {v : Value} {n : Nat} {zs : List Value}, W.ownsRow N 145 2 v n zs → (w1.setCell ⟨w.heap.size, 0, none⟩ (.slice A2 (bp ++ [(x, vv)]).length c2)).ownsRow N 145 2 v n zs := by
  intro v n zs hz
  refine row_same hz (fun k hk => ?_)
  have hk1 := row_bl hz hk
  rw [Below.heap_setCell w1 ⟨w.heap.size, 0, none⟩ _ k (by show k ≠ w.heap.size; omega)]
  rw [hgrow.block k (by simp; omega) (fun e => ?_), Below.heap_alloc W tmp k hk1.2]
  obtain ⟨c1, h1⟩ := own_typed hz k hk
  obtain ⟨c3, h3⟩ := own_typed h.row k e.symm
  rw [h1] at h3
  cases h3
 have hlen : (bp ++ [(x, vv)]).length = bp.length + 1 := by simp
 refine ⟨⟨hvb.set _, ?_, ?_, ?_, ?_, ?_⟩, ?_, ?_⟩
 · rw [flB_snoc, hlen]
   exact row_same hown (fun k hk => Below.heap_setCell w1 ⟨w.heap.size, 0, none⟩ _ k (by have := (row_bl hown hk).1; show k ≠ w.heap.size; omega))
 · intro p hp
   rcases List.mem_append.mp hp with hp | hp
   · exact hrow (h.sps p hp)
   · simp only [List.mem_singleton] at hp
     subst hp
     exact hrow hs
 · rw [hne]; simp [h.acc_]
 · exact ((h.bl.alloc h.bl.size _).grown hgrow (by have := h.bl.size; simp; omega) (fun k hk => by have := hge k hk; omega)).setCell (p := ⟨w.heap.size, 0, none⟩) (Nat.le_refl _) _
 · have : (w1.setCell ⟨w.heap.size, 0, none⟩ (.slice A2 (bp ++ [(x, vv)]).length c2)).heap.size = w1.heap.size := by show (w1.heap.modify _ _).size = _; simp
   omega
 · exact ((KeepsOthers.alloc W tmp).trans (KeepsOthers.of_grownBy hgrow (row_cells h.row tmp))).trans (KeepsOthers.setCell _ _ _)
 · refine ⟨?_, fun k o hk hne2 ho hco => ?_⟩
   · have : (w1.setCell ⟨w.heap.size, 0, none⟩ (.slice A2 (bp ++ [(x, vv)]).length c2)).heap.size = w1.heap.size := by show (w1.heap.modify _ _).size = _; simp
     omega
   · rw [Below.heap_setCell w1 ⟨w.heap.size, 0, none⟩ _ k hne2]
     have hkl := (Array.getElem?_eq_some_iff.1 ho).1
     rw [hgrow.block k (by simp; omega) (fun e => by have := hge _ e.symm; omega), Below.heap_alloc W tmp k hkl]
     exact ho
theorem MI.mrg {g : Nat} {bp0 : List (Bd × Value)} {a b v : Int} {s : List Sp} {x : Value} {r : List Bd} (h : MI w N ((a, b, s) :: r) (some ⟨g, 0, none⟩) Lc (bp0 ++ [((a, b, s), x)]) W) (hN : w.heap.size < N) :
 MI w N ((a, v, s) :: r) (some ⟨g, 0, none⟩) Lc (bp0 ++ [((a, v, s), x)]) (W.setCell ⟨g, bp0.length * 3 + 1, none⟩ (.int .i64 v)) ∧ KeepsOthers W (W.setCell ⟨g, bp0.length * 3 + 1, none⟩ (.int .i64 v)) ∧ KtN N w.heap.size W (W.setCell ⟨g, bp0.length * 3 + 1, none⟩ (.int .i64 v)) := by
 have hg := row_bl h.row (k := g) rfl
 have hsz := h.sz
 have hszs : (W.setCell ⟨g, bp0.length * 3 + 1, none⟩ (.int .i64 v)).heap.size = W.heap.size := by show (W.heap.modify _ _).size = _; simp
 have hl : ∀ q : Bd × Value, (bp0 ++ [q]).length = bp0.length + 1 := fun q => by simp
 have hacc := h.acc_
 simp only [List.map_append, List.map_cons, List.map_nil, List.reverse_cons] at hacc
 have hacc2 : bp0.map (·.1) = r.reverse := (List.append_inj' hacc rfl).1
 have hvb := h.vb
 rw [hl] at hvb
 refine ⟨⟨?_, ?_, ?_, ?_, ?_, ?_⟩, KeepsOthers.setCell _ _ _, ?_, fun k o hk hne ho hco => ?_⟩
 · rw [hl]; exact (Below.heap_setCell W ⟨g, bp0.length * 3 + 1, none⟩ _ w.heap.size (by show w.heap.size ≠ g; omega)).trans hvb
 · have := own_set h.row (bp0.length * 3 + 1) (.int .i64 v)
   rw [flB_set, hl] at this
   rw [hl]
   exact this
 · intro p hp
   have hr : ∀ {vv : Value} {n : Nat} {zs : List Value}, W.ownsRow N 145 2 vv n zs → (W.setCell ⟨g, bp0.length * 3 + 1, none⟩ (.int .i64 v)).ownsRow N 145 2 vv n zs := by
    intro vv n zs hz
    refine row_same hz (fun k hk => Below.heap_setCell W ⟨g, bp0.length * 3 + 1, none⟩ _ k ?_)
    obtain ⟨c1, h1⟩ := own_typed hz k hk
    obtain ⟨c3, h3⟩ := own_typed h.row g rfl
    show k ≠ g
    rintro rfl
    rw [h1] at h3
    cases h3
   rcases List.mem_append.mp hp with hp | hp
   · exact hr (h.sps p (List.mem_append_left _ hp))
   · simp only [List.mem_singleton] at hp
     subst hp
     exact hr (h.sps ((a, b, s), x) (List.mem_append_right _ (by simp)))
 · simp [hacc2]
 · exact h.bl.setCell (p := ⟨g, bp0.length * 3 + 1, none⟩) (by show w.heap.size ≤ g; omega) _
 · omega
 · omega
 · rw [Below.heap_setCell W ⟨g, bp0.length * 3 + 1, none⟩ _ k (by show k ≠ g; omega)]
   exact ho
end
end Go.Proofs.Ythbajahklnpkcaa.PA

namespace Go
set_option linter.unusedVariables false
variable {F : Fence} {n : Nat} {P : Program}
theorem Oper.wpIn_round (l : Nat) {o : Oper} (hnd : ∀ c, o.op ≠ .defer c) (hro : F.round = none) {a : Act} {w : World} {K : Act → World → Prop} {Q : Exit → Act → World → Prop} (h : o.wpIn F n P a w K Q) : o.wpIn (F.inRound l) n P a w K Q := by
 refine ⟨h.1, ?_⟩
 have h2 := h.2
 rw [hro, Oper.semAt_none] at h2
 show Oper.uponIn (F.inRound l) n P o a K Q ((o.semAt (some l) a.eval).run P w)
 rw [Oper.semAt_some l _ _ hnd]
 exact h2
theorem wpAnyIn_round (l : Nat) {ops : Array Oper} (hnd : ∀ (i : Nat) (o : Oper), ops[i]? = some o → ∀ c, o.op ≠ .defer c) (hro : F.round = none) {md : Region.Mode} {Q : Exit → Act → World → Prop} : ∀ (fuel : Nat) (listed : Array Bool) (a : Act) (w : World),
 wpAnyIn F n P md ops Q fuel listed a w → wpAnyIn (F.inRound l) n P md ops Q fuel listed a w
 | 0, _, _, _, h => h
 | fuel + 1, listed, a, w, h => by
  refine ⟨h.1, fun i hi => ?_⟩
  have h2 := h.2 i hi
  unfold wpOpIn at h2 ⊢
  split
  · rename_i ho
    simp only [ho] at h2
    exact wpAnyIn_round l hnd hro fuel _ a w h2
  · rename_i o ho
    simp only [ho] at h2
    split
    · rename_i hw
      simp only [hw, if_true] at h2
      exact Oper.wpIn_round l (hnd i o ho) hro (Oper.wpIn_mono (fun a w h => wpAnyIn_round l hnd hro fuel _ a w h) h2)
    · rename_i hw
      rw [if_neg hw] at h2
      exact ⟨h2.1, wpAnyIn_round l hnd hro fuel _ _ _ h2.2⟩
def noDefer (l : List Oper) : Bool := l.all fun o => match o.op with
 | .defer _ => false
 | _ => true
theorem region_quiet_round {id l : Nat} {Q : Exit → Act → World → Prop} {a : Act} {w : World} {os : List Oper} (hro : F.round = none) (hm : P.follows .mixedOrders = true) (hB : Region.lexB .any os.toArray = true) (hd : noDefer os = true)
 (h : wpQuietIn F n P os.toArray (fun w' => ∃ n, w' = w.drewN n) (fun a' => ∀ w', (∃ n, w' = w.drewN n) → Q .normal a' w') os a) : (Code.region id os.toArray true).wpIn (F.inRound l) n P Q a w := by
 have hB' := hB
 simp only [Region.lexB, Bool.and_eq_true] at hB
 have hnd : ∀ (i : Nat) (o : Oper), os.toArray[i]? = some o → ∀ c, o.op ≠ .defer c := by
  intro i o ho c hc
  have hm : o ∈ os := by
   have := List.mem_of_getElem? (by simpa using ho : os[i]? = some o)
   exact this
  have := List.all_eq_true.mp hd o hm
  rw [hc] at this
  cases this
 refine wpIn_region_any hm (wpAnyIn_round l hnd hro _ _ _ _ ?_)
 refine wpAnyIn_of_quiet (C := fun w' => ∃ n, w' = w.drewN n) (Q := fun a' => ∀ w', (∃ n, w' = w.drewN n) → Q .normal a' w') hro (fun _ w' hw' h => h w' hw') _ _ _ _ ⟨1, rfl⟩ ?_
 have := wpAnyQIn_lex (F := F) (n := n) (C := fun w' => ∃ n, w' = w.drewN n) (md := .any) hB.1 os.toArray.toList 0 (Array.replicate os.toArray.size false) a (by simp) (by simpa using hB.2) (by simpa using h)
 simpa using this
end Go

namespace Go.Proofs.Ythbajahklnpkcaa.PA
open Go.RowKit Go.Shelf Go.Sort Go.Proofs.YthbajahklnpkcaaW.PrintWords Go.Proofs.YthbajahklnpkcaaW.PrintLast Go.Proofs.YthbajahklnpkcaaW.PrintMore
attribute [local go_sem] Oper.semAt_some
set_option linter.unusedVariables false
set_option linter.unusedSimpArgs false
theorem addP_sp {acc : List Bd} {u v : Int} {s : List Sp} {B : Nat} (h : ∀ y ∈ acc, y.2.2.length ≤ B) (hs : s.length ≤ B) : ∀ y ∈ addP acc u v s, y.2.2.length ≤ B := by
 intro y hy
 cases acc with
 | nil => simp [addP] at hy; subst hy; exact hs
 | cons q r =>
  obtain ⟨a, b, t⟩ := q
  by_cases hb : b = u ∧ t = s
  · simp only [addP, hb, and_self, if_true] at hy
    rcases List.mem_cons.mp hy with rfl | hy
    · first | exact hs | exact h (a, b, t) (by simp)
    · exact h y (by simp [hy])
  · simp only [addP, hb, if_false] at hy
    rcases List.mem_cons.mp hy with rfl | hy
    · exact hs
    · exact h y hy
theorem accP_sp (l : List Bd) {B : Nat} (h : ∀ y ∈ l, y.2.2.length ≤ B) : ∀ y ∈ accP l, y.2.2.length ≤ B := by
 have : ∀ (l : List Bd) (acc : List Bd), (∀ y ∈ l, y.2.2.length ≤ B) → (∀ y ∈ acc, y.2.2.length ≤ B) → ∀ y ∈ l.foldl (fun acc x => addP acc x.1 x.2.1 x.2.2) acc, y.2.2.length ≤ B := by
  intro l
  induction l with
  | nil => intro acc _ ha; exact ha
  | cons x l ih =>
   intro acc hl ha
   exact ih _ (fun y hy => hl y (by simp [hy])) (addP_sp ha (hl x (by simp)))
 exact this l [] h (fun y hy => by cases hy)
theorem drawn_ex {W W' : World} (h : Drawn0 W W') : ∃ m, W' = W.drewN m := by
 obtain ⟨m, hm⟩ := h
 exact ⟨m, hm⟩
def rectW (b : Bd) (s : Sp) : S43 := ⟨s.1, b.1, wrap64 (s.2 - s.1), wrap64 (b.2.1 - b.1)⟩
def flatW (l : List Bd) : List S43 := l.flatMap fun b => b.2.2.map (rectW b)
def outOf (is : Bool → Bool → Bool) (a b : List S43) : List S43 := flatW (accP (bandsOf is a b (edgX (a ++ b)) (edgY (a ++ b)))).reverse
def madeE (out : List S43) : Int := if badL out = true then 7 else if 200 < out.length then 4 else 0
def madeL (out : List S43) : List S43 := if badL out = true then [] else if 200 < out.length then [] else out
theorem fl43_snoc (l : List S43) (s : S43) : fl43 (l ++ [s]) = fl43 l ++ [.int .i64 s.f0, .int .i64 s.f1, .int .i64 s.f2, .int .i64 s.f3] := by simp [fl43]
theorem reps43 (W : World) (base : Nat) (ok : Nat → Prop) (l : List S43) : Reps (k43.M W base ok) 4 l (fl43 l) := by
 have key : ∀ (r a : List S43), Reps (k43.M W base ok) 4 a (fl43 a) → Reps (k43.M W base ok) 4 (a ++ r) (fl43 (a ++ r)) := by
  intro r
  induction r with
  | nil => intro a h; simpa using h
  | cons x r ih =>
   intro a h
   have h1 : Reps (k43.M W base ok) 4 (a ++ [x]) (fl43 (a ++ [x])) := by
    have := h.snoc (k43_mkM W base ok x) rfl
    simpa [fl43] using this
   have := ih (a ++ [x]) h1
   simpa using this
 simpa using key l [] (Reps.none _ _)
theorem rect_R {W : World} {base : Nat} {v : Value} {l : List S43} (h : W.ownsRow base 43 4 v l.length (fl43 l)) : Kd.R k43 43 W base (fun _ => True) v l := ⟨fun _ _ => trivial, fl43 l, h, reps43 _ _ _ l⟩
theorem rect_C {W : World} {base c : Nat} {A : Option Addr} {l : List S43} (h : W.ownsRow base 43 4 (.slice A l.length c) l.length (fl43 l)) : Kd.C k43 W A l.length l := (Kd.R_reads' (rect_R h)).2.2
theorem cells4_new (W : World) (a b c d : Value) (t : TypeId) : ∀ j u, [a, b, c, d][j]? = some u → (W.alloc (.cells #[a, b, c, d] t)).cell? ((⟨W.heap.size, 0, none⟩ : Addr).add j) = some u := by
 intro j u h
 have HB := Blk.new W #[a, b, c, d] t
 match j, h with
 | 0, h => simp at h; subst h; exact HB.cell 0 rfl
 | 1, h => simp at h; subst h; exact HB.cell 1 rfl
 | 2, h => simp at h; subst h; exact HB.cell 2 rfl
 | 3, h => simp at h; subst h; exact HB.cell 3 rfl
 | j + 4, h => simp at h
theorem cells4_at (W : World) (a b c d : Value) (t : TypeId) (n : Nat) (hn : n = W.heap.size) : ∀ j u, [a, b, c, d][j]? = some u → (W.alloc (.cells #[a, b, c, d] t)).cell? ((⟨n, 0, none⟩ : Addr).add j) = some u := by
 subst hn
 exact cells4_new W a b c d t
theorem flatW_len {B : Nat} : ∀ (l : List Bd), (∀ y ∈ l, y.2.2.length ≤ B) → (flatW l).length ≤ l.length * B
 | [], _ => by simp [flatW]
 | b :: l, h => by
  have h1 := flatW_len l (fun y hy => h y (by simp [hy]))
  have h2 := h b (by simp)
  have e : flatW (b :: l) = b.2.2.map (rectW b) ++ flatW l := rfl
  rw [e, List.length_append, List.length_map, List.length_cons, Nat.succ_mul]
  omega
theorem flatW_take (l : List Bd) (i : Nat) (b : Bd) (h : l[i]? = some b) : flatW (l.take (i + 1)) = flatW (l.take i) ++ b.2.2.map (rectW b) := by
 rw [List.take_add_one, h]
 simp [flatW, List.flatMap_append]
theorem fl145_get : ∀ (l : List Sp) (j : Nat) (s : Sp), l[j]? = some s → (fl145 l)[j * 2]? = some (.int .i64 s.1) ∧ (fl145 l)[j * 2 + 1]? = some (.int .i64 s.2)
 | [], j, s, h => by cases h
 | q :: l, 0, s, h => by cases h; exact ⟨rfl, rfl⟩
 | q :: l, j + 1, s, h => by
  obtain ⟨h1, h2⟩ := fl145_get l j s h
  have e : fl145 (q :: l) = .int .i64 q.1 :: .int .i64 q.2 :: fl145 l := rfl
  rw [e, show (j + 1) * 2 = j * 2 + 1 + 1 by omega]
  exact ⟨h1, h2⟩
set_option maxRecDepth 100000 in
set_option maxHeartbeats 8000000 in
theorem made_walk (is : Bool → Bool → Bool) (gi : Nat) (eg : ∀ args w, (callFunc gi args).run Try.prog w = .ok (.enter gi args) w) (his : IsB gi is)
 (A B : Option Addr) (cA cB : Nat) (a b : List S43) (w : World) (hr : Kd.C k43 w A a.length a) (hr2 : Kd.C k43 w B b.length b) (hla : a.length ≤ 40000) (hlb : b.length ≤ 40000) :
 Calls Try.prog 73 #[.slice A a.length cA, .slice B b.length cB, .func (.func gi) #[] #[]] w fun e w' => ∃ v, e = .returned (.tuple #[v, .int .i64 (madeE (outOf is a b))]) ∧ w'.ownsRow w.heap.size 43 4 v (madeL (outOf is a b)).length (fl43 (madeL (outOf is a b))) ∧ Below w.heap.size w w' := by
 have HBC := Aside0.mk (bands_calls gi A B cA cB a b (w.alloc (.cells #[.slice none 0 0] 136)) (Kd.C_alloc hr _) (Kd.C_alloc hr2 _) hla hlb)
 have HR := Aside0.mk hr
 have HR2 := Aside0.mk hr2
 clear hr hr2
 refine (callsIn_wide (n := 9)).1 ?_
 refine callsIn_of_wp_marks Try.func73 rfl trivial ?_ rfl
 simp only [Try.ntmps73, List.size_toArray, List.length_cons, List.length_nil, Nat.reduceAdd, Nat.reduceSub, Array.replicate_succ, Array.replicate_zero, List.push_toArray, List.append_toArray, List.nil_append, List.cons_append]
 gi_wp2
 refine ⟨trivial, ((callsIn_wide (n := 8)).2 HBC.out).mono ?_⟩
 rintro ee w2 ⟨X, Y, cX, cY, px, py, rfl, henv, hpx, hpy, hb2⟩
 gi_wp2
 have hs1 : (w.alloc (.cells #[.slice none 0 0] 136)).heap.size = w.heap.size + 1 := by simp
 rw [hs1] at henv hpx hpy hb2
 have hs2 := hb2.size
 rw [hs1] at hs2
 have hB2 : Below w.heap.size w w2 := ((Below.refl _ w).alloc (Nat.le_refl _) _).trans (hb2.mono (by omega))
 have hvb : Boxed w2 w.heap.size 136 (.slice none 0 0) := (hb2.block w.heap.size (by omega)).trans (Boxed.new w 136 _)
 have hxl : (edgX (a ++ b)).length ≤ 1000000 := by have := edgesL_len (fun r => r.f0) (fun r => wrap64 (r.f0 + r.f2)) (a ++ b); simp at this; unfold edgX; omega
 have hyl : (edgY (a ++ b)).length ≤ 1000000 := by have := edgesL_len (fun r => r.f1) (fun r => wrap64 (r.f1 + r.f3)) (a ++ b); simp at this; unfold edgY; omega
 obtain ⟨N, hN⟩ : ∃ N, N = w2.heap.size := ⟨_, rfl⟩
 have hwN : w.heap.size < N := by omega
 have hIt := bands3_it 8 is gi eg his A B cA cB a b (edgX (a ++ b)) (edgY (a ++ b)) X Y cX cY (w.heap.size + 1) (w.heap.size + 1 + 1) (w.heap.size + 1 + 1 + 1) px py N w.heap.size w w2 hxl hyl henv hN rfl hB2 HR.out HR2.out (by omega) (by omega) (by omega) (by omega) (by omega)
 have HSL := Aside0.mk (show ∀ x ∈ bandsOf is a b (edgX (a ++ b)) (edgY (a ++ b)), x.2.2.length ≤ 1000000 from by
  intro x hx
  simp only [bandsOf, bdN, List.mem_map] at hx
  obtain ⟨i, _, rfl⟩ := hx
  have := rowN_len (fun x => is (covL a x ((edgY (a ++ b)).getD i 0)) (covL b x ((edgY (a ++ b)).getD i 0))) (edgX (a ++ b)) ((edgX (a ++ b)).length - 1)
  simp only [spansOf, List.length_reverse]
  omega)
 have HBL := Aside0.mk (show (bandsOf is a b (edgX (a ++ b)) (edgY (a ++ b))).length ≤ 1000000 from by
  rw [bandsOf, bdN_len]; omega)
 generalize hall : bandsOf is a b (edgX (a ++ b)) (edgY (a ++ b)) = all at hIt HSL HBL
 have HALL := Aside0.mk hall
 clear hall
 refine wpIn_rangeFunc_Q (n := 9) rfl (by omega) (gf := 141) (lb := #[.pointer (some ⟨py, 0, none⟩), .pointer (some ⟨px, 0, none⟩), .pointer (some ⟨w.heap.size + 1 + 1 + 1, 0, none⟩), .pointer (some ⟨w.heap.size + 1, 0, none⟩), .pointer (some ⟨w.heap.size + 1 + 1, 0, none⟩)]) rfl trivial (enters_of Try.func141 (by kernel_rfl) rfl)
  hIt (fun W x args h => by obtain ⟨v, rfl, _⟩ := h; rfl)
  (fun A B C h h' => ktN_trans h h') (fun W o => ktN_bel ((Below.refl _ W).alloc (Nat.le_refl _) o))
  (fun W l o o' hl ho => ⟨by simp [World.putObj], fun k q _ _ hk hq => (World.putObj_heap_other (fun e => by subst e; rw [hl] at hk; cases hk; rw [ho] at hq; cases hq)).trans hk⟩)
  (fun A B k o ht hk ho => (ht.block k (Array.getElem?_eq_some_iff.1 hk).1).trans hk)
  (fun pre W => ∃ LA Lc bp, MI w N (accP pre) LA Lc bp W)
  ?Ia ?Ip ?It ?I0
  (fun pre x a' W => ∃ Bx LA Lc bp vv, MI w N (accP pre) LA Lc bp W ∧ Blk W Bx #[.int .i64 x.1, .int .i64 x.2.1, vv] 142 ∧ W.ownsRow N 145 2 vv x.2.2.length (fl145 x.2.2) ∧ N ≤ Bx ∧ a' = { tmps := #[.slice A a.length cA, .slice B b.length cB, .func (.func gi) #[] #[], undef, undef, undef, .slice none 0 0, .int .i64 0, .pointer (some ⟨w.heap.size, 0, none⟩), .pointer (some ⟨Bx, 0, none⟩), undef, undef, undef, undef, undef, undef, .slice A a.length cA, .slice B b.length cB, .func (.func gi) #[] #[], .func (.func 141) #[] #[.pointer (some ⟨py, 0, none⟩), .pointer (some ⟨px, 0, none⟩), .pointer (some ⟨w.heap.size + 1 + 1 + 1, 0, none⟩), .pointer (some ⟨w.heap.size + 1, 0, none⟩), .pointer (some ⟨w.heap.size + 1 + 1, 0, none⟩)], .agg #[.int .i64 x.1, .int .i64 x.2.1, vv], undef, undef, undef, undef, undef, undef, undef, undef, undef, undef, undef, undef, undef, undef, undef, undef, undef, undef, undef, undef, undef, undef, undef, undef, undef, undef, undef, undef, undef, undef, undef, undef, undef, undef, undef, undef, undef, undef, undef, undef, undef, undef, undef, undef, undef, undef, undef, undef, undef, undef, undef, undef, undef, undef, undef, undef, undef, undef, undef, undef, undef, undef, undef, undef, undef, undef, undef, undef, undef, undef, undef, undef, undef, undef, undef, undef], defers := [] })
  ?Axp ?assign ?body ?done
 case Ia => rintro pre W o ⟨LA, Lc, bp, h⟩; exact ⟨LA, Lc, bp, h.alloc o⟩
 case Ip => rintro pre W l o o' ⟨LA, Lc, bp, h⟩ hl ho hc; exact ⟨LA, Lc, bp, h.put hwN o' (by omega) ho hc⟩
 case It => rintro pre A B ⟨LA, Lc, bp, h⟩ ht; exact ⟨LA, Lc, bp, h.bel ht⟩
 case I0 => exact ⟨none, 0, [], ⟨hvb, World.ownsRow_nil _ _ _ _, (fun p hp => absurd hp (by simp)), rfl, hB2, by omega⟩⟩
 case Axp =>
  rintro pre x a' W l o o' ⟨Bx, LA, Lc, bp, vv, h, hx, hs, hB, rfl⟩ hl ho hc
  exact ⟨Bx, LA, Lc, bp, vv, h.put hwN o' (by omega) ho hc, hx.same (World.putObj_heap_other (fun e => by unfold Blk at hx; rw [← e, hx] at ho; cases ho; cases hc)), ownsRow_putObj hs o' ho hc, hB, rfl⟩
 case assign =>
  rintro l pre x args W K ⟨LA, Lc, bp, h⟩ ⟨vv, rfl, hs⟩ hK
  obtain ⟨Av, cv, rfl⟩ := own_sl hs
  gi_wp2
  refine hK _ _ ⟨W.heap.size, LA, Lc, bp, _, h.alloc _, Blk.new W _ _, hs.alloc _, h.sz, rfl⟩ (KeepsOthers.alloc _ _) (ktN_bel ((Below.refl _ W).alloc (Nat.le_refl _) _))
 case body =>
  rintro l pre x a' W ⟨Bx, LA, Lc, bp, vv, hM, hx, hs, hB, rfl⟩ ⟨rest, hrest⟩
  have hmix : Try.prog.follows .mixedOrders = true := by kernel_rfl
  have hn2 : 1 ≤ 9 - 1 - 1 := by omega
  have hwf : Fence.wide.fn 125 := trivial
  have hwg : (Fence.wide.fn 125) = True := rfl
  have hxm : x ∈ all := by rw [← hrest]; simp
  have hsl := HSL.out x hxm
  have hpl : pre.length ≤ 1000000 := by have := HBL.out; rw [← hrest] at this; simp at this; omega
  have hbl : bp.length ≤ 1000000 := by
   have h1 := congrArg List.length hM.acc_
   simp only [List.length_map, List.length_reverse] at h1
   have := accP_len pre
   omega
  have hsn := accP_snoc pre x
  have hpre : ∀ y ∈ pre, y.2.2.length ≤ 1000000 := fun y hy => HSL.out y (by rw [← hrest]; simp [hy])
  obtain ⟨u, v, s⟩ := x
  simp only at hx hs hsl hsn
  obtain ⟨Av, cv, rfl⟩ := own_sl hs
  have z0 := hx.cell 0 (v := .int .i64 u) rfl
  have z1 := hx.cell 1 (v := .int .i64 v) rfl
  have z2 := hx.cell 2 (v := .slice Av s.length cv) rfl
  obtain ⟨i2, hi2, hz20, hz21, hz22⟩ := info_parts info142
  rcases List.eq_nil_or_concat bp with rfl | ⟨bp0, pq, hbq⟩
  · have cl := hM.vb.cell
    simp only [List.length_nil] at cl
    have h63 : 0 + 1 ≤ maxLen := by decide
    have hbytes : (0 + 1) * 40 ≤ 140737488355328 := by decide
    have hnil : accP pre = [] := by have := hM.acc_; simpa using this.symm
    have hne : addP (accP pre) u v s = (u, v, s) :: accP pre := by rw [hnil]; rfl
    gi_wp2
    refine region_quiet_round (F := Fence.wide) rfl hmix (by kernel_rfl) (by kernel_rfl) ?_
    repeat (gi_big_quiet_step (fail))
    refine wpQuietIn_nil ?_
    intro _ hw'
    obtain ⟨nq, hw''⟩ := hw'
    subst hw''
    have hMd := hM.bel (pw_below_drewN (Below.refl W.heap.size W) nq)
    have hsd := row_bel hs (pw_below_drewN (Below.refl W.heap.size W) nq)
    have hrowd : (W.drewN nq).ownsRow N 142 3 (.slice LA 0 Lc) 0 [] := hMd.row
    have hvbd : Boxed (W.drewN nq) w.heap.size 136 (.slice LA 0 Lc) := hMd.vb
    have hbase : N ≤ ((W.drewN nq).alloc (.cells #[.int .i64 u, .int .i64 v, .slice Av s.length cv] 142)).heap.size := by have := hMd.sz; simp; simpa using Nat.le_succ_of_le this
    have hge : ∀ k, (Value.slice LA 0 Lc).ownBlock = some k → N ≤ k := fun k hk => (row_bl hMd.row (k := k) hk).1
    gi_wp2_with (first
     | (gi_at_builtin; refine wpListIn_append_own _ rfl _ _ 136 rfl N 142 i2 (.agg #[.int .i64 0, .int .i64 0, .slice none 0 0]) 3 40 Try.underlying136 hi2 hz20 hz21 hz22 rfl (by decide) _ _ _ rfl (hrowd.alloc _) ⟨W.heap.size, 0, none⟩ 1 1 [.int .i64 u, .int .i64 v, .slice Av s.length cv] rfl rfl (cells3_new (W.drewN nq) _ _ _ _) (by simp [Value.oneCell']) h63 hbytes hbase ?_; intro v' w1 hown hgrow _; obtain ⟨g', cap', rfl⟩ := ownsRow_succ hown; have vb1 : Boxed w1 w.heap.size 136 (.slice LA 0 Lc) := (hvbd.alloc _).kept hgrow (fun e => by have := hge _ e.symm; omega); have hc1 := vb1.cell; have hf1 := vb1.frozen))
    have R := MI.app hMd hwN (x := (u, v, s)) (c2 := cap') hsd hne hgrow hown
    obtain ⟨R1, R2, R3⟩ := R
    rw [show (([] : List (Bd × Value)) ++ [((u, v, s), Value.slice Av s.length cv)]).length = 1 from rfl] at R1 R2 R3
    refine ⟨(show KeepsOthers W (W.drewN nq) from ⟨Nat.le_refl _, fun _ _ h _ => h⟩).trans R2, ⟨_, _, _, hsn ▸ R1⟩, ktN_trans (ktN_bel (pw_below_drewN (Below.refl W.heap.size W) nq)) R3⟩
  · rw [List.concat_eq_append] at hbq
    subst hbq
    obtain ⟨⟨qa, qb, qt⟩, pv⟩ := pq
    have hsp : W.ownsRow N 145 2 pv qt.length (fl145 qt) := hM.sps ((qa, qb, qt), pv) (by simp)
    obtain ⟨At, ct, hpv⟩ := own_sl hsp
    subst hpv
    have hln : (bp0 ++ [((qa, qb, qt), Value.slice At qt.length ct)]).length = bp0.length + 1 := by simp
    have hrow0 := hM.row
    have hvb0 := hM.vb
    rw [hln] at hrow0 hvb0 hbl
    obtain ⟨g, rfl⟩ := own_some hrow0 (by omega)
    have cl := hvb0.cell
    obtain ⟨lb, lc⟩ := flB_last bp0 ((qa, qb, qt), Value.slice At qt.length ct)
    obtain ⟨kb, fb⟩ := own_cell hrow0 lb
    obtain ⟨kc, fc⟩ := own_cell hrow0 lc
    simp only at kb kc
    have hacc : accP pre = (qa, qb, qt) :: (bp0.map (·.1)).reverse := by
     have h := congrArg List.reverse hM.acc_
     simp only [List.map_append, List.map_cons, List.map_nil, List.reverse_append, List.reverse_cons, List.reverse_nil, List.nil_append, List.singleton_append, List.reverse_reverse] at h
     exact h.symm
    have h63 : bp0.length + 1 + 1 ≤ maxLen := by unfold maxLen; omega
    have hbytes : (bp0.length + 1 + 1) * 40 ≤ 140737488355328 := by omega
    have hqtl : qt.length ≤ 1000000 := by
     have hm : (qa, qb, qt) ∈ accP pre := by rw [hacc]; simp
     exact accP_sp pre hpre _ hm
    have HEQ : ∀ k, Calls Try.prog 125 #[.slice At qt.length ct, .slice Av s.length cv] (W.drewN k) fun e w' => e = .returned (.bool (decide (qt = s))) ∧ Drawn0 (W.drewN k) w' := fun k => same125 (row_bel hsp (pw_below_drewN (Below.refl _ _) k)) rfl (row_bel hs (pw_below_drewN (Below.refl _ _) k)) rfl hqtl
    have i0 : (0 : Int) ≤ (bp0.length : Int) := by omega
    have i1 : (bp0.length : Int) < ((bp0.length + 1 : Nat) : Int) := by omega
    by_cases hbu : qb = u
    · have hbub : (qb == u) = true := by simpa using hbu
      by_cases hts : qt = s
      · have htd : decide (qt = s) = true := decide_eq_true hts
        simp only [htd] at HEQ
        have had : addP ((qa, qb, qt) :: (bp0.map (·.1)).reverse) u v s = (qa, v, qt) :: (bp0.map (·.1)).reverse := by simp [addP, hbu, hts]
        have HAD := Aside0.mk had
        clear had hts htd
        gi_wp2
        refine region_quiet_round (F := Fence.wide) rfl hmix (by kernel_rfl) (by kernel_rfl) ?_
        repeat (gi_big_quiet_step ((exact CallsIn.quiet_of ((callsIn_wide.2 (HEQ _)).mono (fun e w' h => And.intro h.1 (drawn_ex h.2))))))
        refine wpQuietIn_nil ?_
        intro _ hw'
        obtain ⟨nq, hw''⟩ := hw'
        subst hw''
        have hMd := hM.bel (pw_below_drewN (Below.refl W.heap.size W) nq)
        have hsd := row_bel hs (pw_below_drewN (Below.refl W.heap.size W) nq)
        have kbd : (W.drewN nq).cell? ⟨g, bp0.length * 3 + 1, none⟩ = some (.int .i64 qb) := kb
        have fbd : (W.drewN nq).frozen? ⟨g, bp0.length * 3 + 1, none⟩ = false := fb
        rw [hacc] at hMd hsn
        have R := MI.mrg (v := v) hMd hwN
        obtain ⟨R1, R2, R3⟩ := R
        rw [HAD.out] at hsn
        gi_wp2
        refine ⟨(show KeepsOthers W (W.drewN nq) from ⟨Nat.le_refl _, fun _ _ h _ => h⟩).trans R2, ⟨_, _, _, hsn ▸ R1⟩, ktN_trans (ktN_bel (pw_below_drewN (Below.refl W.heap.size W) nq)) R3⟩
      · have htd : decide (qt = s) = false := decide_eq_false hts
        simp only [htd] at HEQ
        have hne : addP (accP pre) u v s = (u, v, s) :: accP pre := by rw [hacc]; simp [addP, hts]
        gi_wp2
        refine region_quiet_round (F := Fence.wide) rfl hmix (by kernel_rfl) (by kernel_rfl) ?_
        repeat (gi_big_quiet_step ((exact CallsIn.quiet_of ((callsIn_wide.2 (HEQ _)).mono (fun e w' h => And.intro h.1 (drawn_ex h.2))))))
        refine wpQuietIn_nil ?_
        intro _ hw'
        obtain ⟨nq, hw''⟩ := hw'
        subst hw''
        have hMd := hM.bel (pw_below_drewN (Below.refl W.heap.size W) nq)
        have hsd := row_bel hs (pw_below_drewN (Below.refl W.heap.size W) nq)
        have hrowd : (W.drewN nq).ownsRow N 142 3 (.slice (some ⟨g, 0, none⟩) (bp0.length + 1) Lc) (bp0.length + 1) (flB (bp0 ++ [((qa, qb, qt), .slice At qt.length ct)])) := hrow0
        have hvbd : Boxed (W.drewN nq) w.heap.size 136 (.slice (some ⟨g, 0, none⟩) (bp0.length + 1) Lc) := hvb0
        have hbase : N ≤ ((W.drewN nq).alloc (.cells #[.int .i64 u, .int .i64 v, .slice Av s.length cv] 142)).heap.size := by have := hMd.sz; simp; simpa using Nat.le_succ_of_le this
        have hge : ∀ k, (Value.slice (some ⟨g, 0, none⟩) (bp0.length + 1) Lc).ownBlock = some k → N ≤ k := fun k hk => (row_bl hrowd (k := k) hk).1
        gi_wp2_with (first
         | (gi_at_builtin; refine wpListIn_append_own _ rfl _ _ 136 rfl N 142 i2 (.agg #[.int .i64 0, .int .i64 0, .slice none 0 0]) 3 40 Try.underlying136 hi2 hz20 hz21 hz22 rfl (by decide) _ _ _ rfl (hrowd.alloc _) ⟨W.heap.size, 0, none⟩ 1 1 [.int .i64 u, .int .i64 v, .slice Av s.length cv] rfl rfl (cells3_new (W.drewN nq) _ _ _ _) (by simp [Value.oneCell']) h63 hbytes hbase ?_; intro v' w1 hown hgrow _; obtain ⟨g', cap', rfl⟩ := ownsRow_succ hown; have vb1 : Boxed w1 w.heap.size 136 (.slice (some ⟨g, 0, none⟩) (bp0.length + 1) Lc) := (hvbd.alloc _).kept hgrow (fun e => by have := hge _ e.symm; omega); have hc1 := vb1.cell; have hf1 := vb1.frozen))
        have R := MI.app hMd hwN (x := (u, v, s)) (c2 := cap') hsd hne (by rw [hln]; exact hgrow) (A2 := some ⟨g', 0, none⟩) (by rw [hln]; exact hown)
        obtain ⟨R1, R2, R3⟩ := R
        rw [show ((bp0 ++ [((qa, qb, qt), Value.slice At qt.length ct)]) ++ [((u, v, s), Value.slice Av s.length cv)]).length = bp0.length + 1 + 1 by simp] at R1 R2 R3
        refine ⟨(show KeepsOthers W (W.drewN nq) from ⟨Nat.le_refl _, fun _ _ h _ => h⟩).trans R2, ⟨_, _, _, hsn ▸ R1⟩, ktN_trans (ktN_bel (pw_below_drewN (Below.refl W.heap.size W) nq)) R3⟩
    · have hbub : (qb == u) = false := by simpa using hbu
      have hne : addP (accP pre) u v s = (u, v, s) :: accP pre := by rw [hacc]; simp [addP, hbu]
      gi_wp2
      refine region_quiet_round (F := Fence.wide) rfl hmix (by kernel_rfl) (by kernel_rfl) ?_
      repeat (gi_big_quiet_step (fail))
      refine wpQuietIn_nil ?_
      intro _ hw'
      obtain ⟨nq, hw''⟩ := hw'
      subst hw''
      have hMd := hM.bel (pw_below_drewN (Below.refl W.heap.size W) nq)
      have hsd := row_bel hs (pw_below_drewN (Below.refl W.heap.size W) nq)
      have hrowd : (W.drewN nq).ownsRow N 142 3 (.slice (some ⟨g, 0, none⟩) (bp0.length + 1) Lc) (bp0.length + 1) (flB (bp0 ++ [((qa, qb, qt), .slice At qt.length ct)])) := hrow0
      have hvbd : Boxed (W.drewN nq) w.heap.size 136 (.slice (some ⟨g, 0, none⟩) (bp0.length + 1) Lc) := hvb0
      have hbase : N ≤ ((W.drewN nq).alloc (.cells #[.int .i64 u, .int .i64 v, .slice Av s.length cv] 142)).heap.size := by have := hMd.sz; simp; simpa using Nat.le_succ_of_le this
      have hge : ∀ k, (Value.slice (some ⟨g, 0, none⟩) (bp0.length + 1) Lc).ownBlock = some k → N ≤ k := fun k hk => (row_bl hrowd (k := k) hk).1
      gi_wp2_with (first
       | (gi_at_builtin; refine wpListIn_append_own _ rfl _ _ 136 rfl N 142 i2 (.agg #[.int .i64 0, .int .i64 0, .slice none 0 0]) 3 40 Try.underlying136 hi2 hz20 hz21 hz22 rfl (by decide) _ _ _ rfl (hrowd.alloc _) ⟨W.heap.size, 0, none⟩ 1 1 [.int .i64 u, .int .i64 v, .slice Av s.length cv] rfl rfl (cells3_new (W.drewN nq) _ _ _ _) (by simp [Value.oneCell']) h63 hbytes hbase ?_; intro v' w1 hown hgrow _; obtain ⟨g', cap', rfl⟩ := ownsRow_succ hown; have vb1 : Boxed w1 w.heap.size 136 (.slice (some ⟨g, 0, none⟩) (bp0.length + 1) Lc) := (hvbd.alloc _).kept hgrow (fun e => by have := hge _ e.symm; omega); have hc1 := vb1.cell; have hf1 := vb1.frozen))
      have R := MI.app hMd hwN (x := (u, v, s)) (c2 := cap') hsd hne (by rw [hln]; exact hgrow) (A2 := some ⟨g', 0, none⟩) (by rw [hln]; exact hown)
      obtain ⟨R1, R2, R3⟩ := R
      rw [show ((bp0 ++ [((qa, qb, qt), Value.slice At qt.length ct)]) ++ [((u, v, s), Value.slice Av s.length cv)]).length = bp0.length + 1 + 1 by simp] at R1 R2 R3
      refine ⟨(show KeepsOthers W (W.drewN nq) from ⟨Nat.le_refl _, fun _ _ h _ => h⟩).trans R2, ⟨_, _, _, hsn ▸ R1⟩, ktN_trans (ktN_bel (pw_below_drewN (Below.refl W.heap.size W) nq)) R3⟩
 case done =>
  rintro D W ⟨LA, Lc, bp, hM⟩ hD hK
  have hout : outOf is a b = flatW (bp.map (·.1)) := by
   rw [outOf, HALL.out, ← hM.acc_]
  have hbl : bp.length ≤ 1000000 := by
   have h1 := congrArg List.length hM.acc_
   simp only [List.length_map, List.length_reverse] at h1
   have := accP_len all
   have := HBL.out
   omega
  have hsp : ∀ y ∈ bp.map (·.1), y.2.2.length ≤ 1000000 := by
   intro y hy
   rw [hM.acc_] at hy
   exact accP_sp all HSL.out y (by simpa using hy)
  have HOUT := Aside0.mk hout
  have HM := Aside0.mk hM
  have HSP := Aside0.mk hsp
  have HK := Aside0.mk hK
  have cl := hM.vb.cell
  have hDl : D < W.heap.size := (Array.getElem?_eq_some_iff.1 hK).1
  clear hout hM hsp hK HALL HSL HBL
  obtain ⟨i43, hi, hz0, hz1, hz2⟩ := info_parts info43
  gi_wp2
  refine wpIn_wide.2 ?_
  go_loopw [11, 13, 15, 58] (fun s11 s13 s15 s58 wr => ∃ (i : Nat) (A7 : Option Addr) (c7 : Nat), i ≤ bp.length ∧ s58 = .int .i64 i ∧ s11 = .slice A7 (flatW ((bp.map (·.1)).take i)).length c7 ∧ Aside0 (wr.ownsRow W.heap.size 43 4 (.slice A7 (flatW ((bp.map (·.1)).take i)).length c7) (flatW ((bp.map (·.1)).take i)).length (fl43 (flatW ((bp.map (·.1)).take i)))) ∧ Aside0 (Below W.heap.size W wr))
   (fun s11 s13 s15 s58 wr => bp.length - (intOf s58).toNat)
  case atStart => exact ⟨0, none, 0, Nat.zero_le _, rfl, rfl, ⟨World.ownsRow_nil _ _ _ _⟩, ⟨Below.refl _ _⟩⟩
  case round =>
   obtain ⟨i, A7, c7, hi7, rfl, rfl, HO, HB⟩ := hrel
   have hsz := HB.out.size
   have hol : (flatW ((bp.map (·.1)).take i)).length ≤ 1000000 * 1000000 := by
    have h1 := flatW_len ((bp.map (·.1)).take i) (B := 1000000) (fun y hy => HSP.out y (List.mem_of_mem_take hy))
    have h2 : ((bp.map (·.1)).take i).length ≤ 1000000 := by simp; omega
    exact Nat.le_trans h1 (Nat.mul_le_mul_right _ h2)
   by_cases hlt : i < bp.length
   · have hltz : (i : Int) < (bp.length : Int) := by omega
     have e0 : (0 : Int) ≤ (i : Int) := by omega
     obtain ⟨bb, hbb⟩ : ∃ bb, bp[i]? = some bb := ⟨bp[i], List.getElem?_eq_getElem hlt⟩
     obtain ⟨⟨u, v, s⟩, pv⟩ := bb
     have hmem : ((u, v, s), pv) ∈ bp := List.mem_of_getElem? hbb
     have hrs : W.ownsRow N 145 2 pv s.length (fl145 s) := HM.out.sps _ hmem
     obtain ⟨At, ct, hpv⟩ := own_sl hrs
     subst hpv
     have hsl : s.length ≤ 1000000 := HSP.out (u, v, s) (List.mem_map_of_mem (f := (·.1)) hmem)
     have hft := flatW_take (bp.map (·.1)) i (u, v, s) (by rw [List.getElem?_map, hbb]; rfl)
     have hrow := HM.out.row
     obtain ⟨g, hg⟩ := own_some hrow (by omega)
     subst hg
     obtain ⟨l0, l1, l2⟩ := flB_get bp i _ hbb
     have hgW := (row_bl hrow (k := g) rfl).2
     have hq : ∀ (o : Nat) (x : Value), W.cell? ⟨g, o, none⟩ = some x → wr.cell? ⟨g, o, none⟩ = some x := fun o x h => (HB.out.cell (p := ⟨g, o, none⟩) hgW).trans h
     have k0 := hq _ _ (own_cell hrow l0).1
     have k1 := hq _ _ (own_cell hrow l1).1
     have k2 := hq _ _ (own_cell hrow l2).1
     simp only at k0 k1 k2
     have HRS := Aside0.mk hrs
     have HFT := Aside0.mk hft
     generalize hol7 : flatW ((bp.map (·.1)).take i) = o7 at HO hol HFT ⊢
     clear hrs hft hrow l0 l1 l2 hq hmem hbb hol7
     have HX := Aside0.mk (Blk.new wr #[.int .i64 u, .int .i64 v, .slice At s.length ct] 142)
     have c0 := HX.out.cell 0 (v := .int .i64 u) rfl
     have c1 := HX.out.cell 1 (v := .int .i64 v) rfl
     have c2 := HX.out.cell 2 (v := .slice At s.length ct) rfl
     have HB1 : Aside0 (Below W.heap.size W (wr.alloc (.cells #[.int .i64 u, .int .i64 v, .slice At s.length ct] 142))) := ⟨HB.out.alloc hsz _⟩
     have HO1 := Aside0.mk (HO.out.alloc (.cells #[.int .i64 u, .int .i64 v, .slice At s.length ct] 142))
     go_wp2
     obtain ⟨xb, hxb⟩ : ∃ xb, xb = wr.heap.size := ⟨_, rfl⟩
     rw [← hxb] at HX ⊢
     clear hxb c0 c1 c2 k0 k1 k2
     go_loopw [11, 15, 65] (fun s11 s15 s65 w8 => ∃ (j : Nat) (A8 : Option Addr) (c8 : Nat), j ≤ s.length ∧ s65 = .int .i64 j ∧ s11 = .slice A8 (o7 ++ (s.take j).map (rectW (u, v, s))).length c8 ∧ Aside0 (w8.ownsRow W.heap.size 43 4 (.slice A8 (o7 ++ (s.take j).map (rectW (u, v, s))).length c8) (o7 ++ (s.take j).map (rectW (u, v, s))).length (fl43 (o7 ++ (s.take j).map (rectW (u, v, s))))) ∧ Aside0 (Below W.heap.size W w8) ∧ Aside0 (Blk w8 xb #[.int .i64 u, .int .i64 v, .slice At s.length ct] 142))
      (fun s11 s15 s65 w8 => s.length - (intOf s65).toNat)
     case atStart => exact ⟨0, A7, c7, Nat.zero_le _, rfl, by simp, ⟨by simpa using HO1.out⟩, HB1, HX⟩
     case round =>
      obtain ⟨j, A8, c8, hj8, rfl, rfl, HO8, HB8, HX8⟩ := hrel
      have hsz8 := HB8.out.size
      have hx0 := HX8.out.cell 0 (v := .int .i64 u) rfl
      have hx1 := HX8.out.cell 1 (v := .int .i64 v) rfl
      by_cases hlt2 : j < s.length
      · have hltz2 : (j : Int) < (s.length : Int) := by omega
        have e1 : (0 : Int) ≤ (j : Int) := by omega
        obtain ⟨q, hqj⟩ : ∃ q, s[j]? = some q := ⟨s[j], List.getElem?_eq_getElem hlt2⟩
        obtain ⟨gs, hgs⟩ := own_some HRS.out (by omega)
        subst hgs
        obtain ⟨m0, m1⟩ := fl145_get s j q hqj
        have hgsW := (row_bl HRS.out (k := gs) rfl).2
        have n0 := (HB8.out.cell (p := ⟨gs, j * 2, none⟩) hgsW).trans (own_cell HRS.out m0).1
        have n1 := (HB8.out.cell (p := ⟨gs, j * 2 + 1, none⟩) hgsW).trans (own_cell HRS.out m1).1
        have HTK : Aside0 (o7 ++ (s.take (j + 1)).map (rectW (u, v, s)) = (o7 ++ (s.take j).map (rectW (u, v, s))) ++ [rectW (u, v, s) q]) := ⟨by rw [List.take_add_one, hqj]; simp⟩
        have hol8 : (o7 ++ (s.take j).map (rectW (u, v, s))).length ≤ 1000000 * 1000000 + 1000000 := by simp; omega
        obtain ⟨q0, q1⟩ := q
        simp only at n0 n1
        clear hqj m0 m1
        generalize hoo : o7 ++ (s.take j).map (rectW (u, v, s)) = oo at HO8 HTK hol8 ⊢
        clear hoo
        have HS := Aside0.mk (Blk.new wr #[.int .i64 q0, .int .i64 q1] 145)
        have p0 := HS.out.cell 0 (v := .int .i64 q0) rfl
        have p1 := HS.out.cell 1 (v := .int .i64 q1) rfl
        have hx0' := (HX8.out.alloc (.cells #[.int .i64 q0, .int .i64 q1] 145)).cell 0 (v := .int .i64 u) rfl
        have hx1' := (HX8.out.alloc (.cells #[.int .i64 q0, .int .i64 q1] 145)).cell 1 (v := .int .i64 v) rfl
        go_wp2_with (at_builtin; (refine wpList_append_own _ rfl (.tmp 69) (.tmp 85) 22 rfl W.heap.size 43 i43 (.agg #[.int .i64 0, .int .i64 0, .int .i64 0, .int .i64 0]) 4 32 Try.underlying22 hi hz0 hz1 hz2 rfl (by decide) (.slice A8 oo.length c8) oo.length (fl43 oo) rfl ((HO8.out.alloc _).alloc _) ⟨wr.heap.size + 1, 0, none⟩ 1 1 [.int .i64 q0, .int .i64 u, .int .i64 (wrap64 (q1 - q0)), .int .i64 (wrap64 (v - u))] rfl rfl ?c1 ?c2 ?c3 ?c4 ?c5 ?_; (case c1 => refine cells4_at _ _ _ _ _ _ _ ?_; simp); (case c2 => intro u hu; simp only [List.mem_cons, List.not_mem_nil, or_false] at hu; rcases hu with rfl | rfl | rfl | rfl <;> rfl); (case c3 => unfold maxLen; omega); (case c4 => omega); (case c5 => simp; omega); intro v' w9 hown hgr _; have HO9 := Aside0.mk hown; have HG9 := Aside0.mk hgr; clear hown hgr))
        have hge : ∀ k, (Value.slice A8 oo.length c8).ownBlock = some k → W.heap.size ≤ k := fun k hk => (row_bl HO8.out (k := k) hk).1
        obtain ⟨A9, c9, hv9⟩ := own_sl HO9.out
        subst hv9
        have hlen : (o7 ++ (s.take (j + 1)).map (rectW (u, v, s))).length = oo.length + 1 := by rw [HTK.out]; simp
        have hfl : fl43 (o7 ++ (s.take (j + 1)).map (rectW (u, v, s))) = fl43 oo ++ [.int .i64 q0, .int .i64 u, .int .i64 (wrap64 (q1 - q0)), .int .i64 (wrap64 (v - u))] := by rw [HTK.out, fl43_snoc]; rfl
        have hxk : Blk w9 xb #[.int .i64 u, .int .i64 v, .slice (some ⟨gs, 0, none⟩) s.length ct] 142 := by
         have hx2 := (HX8.out.alloc (.cells #[.int .i64 q0, .int .i64 q1] 145)).alloc (.cells #[.int .i64 q0, .int .i64 u, .int .i64 (wrap64 (q1 - q0)), .int .i64 (wrap64 (v - u))] 43)
         refine hx2.same (HG9.out.block _ hx2.lt (fun e => ?_))
         obtain ⟨c3, h3⟩ := own_typed HO8.out xb e.symm
         have h4 := HX8.out
         unfold Blk at h4
         rw [h3] at h4
         cases h4
        have hb9 : Below W.heap.size W w9 := grown_below ((HB8.out.alloc hsz8 _).alloc (by simp; omega) _) (by simp; omega) HG9.out hge
        go_roundw
        case rel => exact ⟨j + 1, A9, c9, by omega, by go_num, by rw [hlen], ⟨by rw [hlen, hfl]; exact HO9.out⟩, ⟨hb9⟩, ⟨hxk⟩⟩
        case measure => simp [intOf]; omega
      · obtain rfl : j = s.length := by omega
        have hltz2 : ¬ (s.length : Int) < (s.length : Int) := by omega
        rw [List.take_length] at HO8
        rw [List.take_length]
        rw [← HFT.out] at HO8 ⊢
        go_wp2
        go_roundw
        case rel => exact ⟨i + 1, A8, c8, by omega, by go_num, rfl, HO8, HB8⟩
        case measure => simp [intOf]; omega
   · obtain rfl : i = bp.length := by omega
     have hltz : ¬ (bp.length : Int) < (bp.length : Int) := by omega
     rw [List.take_of_length_le (by simp)] at HO
     rw [List.take_of_length_le (by simp)] at hol
     rw [List.take_of_length_le (by simp)]
     rw [← HOUT.out] at HO hol ⊢
     generalize hoe : outOf is a b = out at HO hol HOUT ⊢
     have HOE := Aside0.mk hoe
     clear hoe
     have HBAD := Aside0.mk (bad126_calls A7 c7 out wr (rect_C HO.out))
     have HKr : Aside0 (wr.heap[D]? = some (.deferred (some []))) := ⟨(HB.out.block D hDl).trans HK.out⟩
     have HPB := fun (w' : World) (hb : Below wr.heap.size wr w') => Aside0.mk (show w'.heap[D]? = some (.deferred (some [])) ∧ w'.ownsRow W.heap.size 43 4 (.slice A7 out.length c7) out.length (fl43 out) ∧ Below w.heap.size w w' from ⟨(hb.block D (Array.getElem?_eq_some_iff.1 HKr.out).1).trans HKr.out, row_bel HO.out hb, HM.out.bl.trans ((HB.out.trans (hb.mono hsz)).mono HM.out.bl.size)⟩)
     cases hbad : badL out with
     | true =>
      rw [hbad] at HBAD
      go_wp2
      refine wpIn_wide.2 ?_
      go_wp2_with (first | (go_at_call 70; refine HBAD.out.mono ?_; rintro e w9 ⟨rfl, hb9⟩))
      obtain ⟨hK9, hr9, hB9⟩ := (HPB w9 hb9).out
      show LeavesInM Fence.wide 9 Try.prog Try.f73 _ _ _ _ _
      refine ⟨by simp, .inl ⟨D, _, rfl, run_takeDeferred hK9, ?_⟩⟩
      refine ⟨.tuple #[.slice none 0 0, .int .i64 7], by simp [results, Try.results73, go_sem], ?_⟩
      rw [HOE.out]
      refine ⟨_, by rw [show madeE out = 7 from by simp [madeE, hbad]], ?_, hB9.grown (grownBy_putObj' _ D _) hB9.size (fun k ek => by cases ek; omega)⟩
      rw [show madeL out = [] from by simp [madeL, hbad]]
      exact World.ownsRow_nil _ _ _ _
     | false =>
      rw [hbad] at HBAD
      by_cases h200 : 200 < out.length
      · have h2b : decide ((out.length : Int) > 200) = true := decide_eq_true (by omega)
        go_wp2
        refine wpIn_wide.2 ?_
        go_wp2_with (first | (go_at_call 70; refine HBAD.out.mono ?_; rintro e w9 ⟨rfl, hb9⟩))
        obtain ⟨hK9, hr9, hB9⟩ := (HPB w9 hb9).out
        show LeavesInM Fence.wide 9 Try.prog Try.f73 _ _ _ _ _
        refine ⟨by simp, .inl ⟨D, _, rfl, run_takeDeferred hK9, ?_⟩⟩
        refine ⟨.tuple #[.slice none 0 0, .int .i64 4], by simp [results, Try.results73, go_sem], ?_⟩
        rw [HOE.out]
        refine ⟨_, by rw [show madeE out = 4 from by simp [madeE, hbad, h200]], ?_, hB9.grown (grownBy_putObj' _ D _) hB9.size (fun k ek => by cases ek; omega)⟩
        rw [show madeL out = [] from by simp [madeL, hbad, h200]]
        exact World.ownsRow_nil _ _ _ _
      · have h2b : decide ((out.length : Int) > 200) = false := decide_eq_false (by omega)
        go_wp2
        refine wpIn_wide.2 ?_
        go_wp2_with (first | (go_at_call 70; refine HBAD.out.mono ?_; rintro e w9 ⟨rfl, hb9⟩))
        obtain ⟨hK9, hr9, hB9⟩ := (HPB w9 hb9).out
        show LeavesInM Fence.wide 9 Try.prog Try.f73 _ _ _ _ _
        refine ⟨by simp, .inl ⟨D, _, rfl, run_takeDeferred hK9, ?_⟩⟩
        refine ⟨.tuple #[.slice A7 out.length c7, .int .i64 0], by simp [results, Try.results73, go_sem], ?_⟩
        rw [HOE.out]
        refine ⟨_, by rw [show madeE out = 0 from by simp [madeE, hbad, h200]], ?_, hB9.grown (grownBy_putObj' _ D _) hB9.size (fun k ek => by cases ek; omega)⟩
        rw [show madeL out = out from by simp [madeL, hbad, h200]]
        exact ownsRow_putObj (row_base hr9 HM.out.bl.size) _ hK9 rfl
end Go.Proofs.Ythbajahklnpkcaa.PA

namespace Go.Proofs.Ythbajahklnpkcaa.PA
open Go.RowKit Go.Shelf Go.Sort Go.Proofs.YthbajahklnpkcaaW.PrintWords Go.Proofs.YthbajahklnpkcaaW.PrintLast Go.Proofs.YthbajahklnpkcaaW.PrintMore
set_option linter.unusedVariables false
set_option linter.unusedSimpArgs false
def orB (p q : Bool) : Bool := p || q
theorem enters59 : ∀ args w, (callFunc 59 args).run Try.prog w = .ok (.enter 59 args) w := Go.Proofs.enters_of Try.func59 (by kernel_rfl) rfl
theorem is59 : IsB 59 orB := by
 intro W p q
 cases p <;> cases q <;> (go_enter Try.func59, Try.ntmps59; go_wp2; go_ret; exact ⟨rfl, Below.refl _ _⟩)
theorem C43_nil (w : World) (A : Option Addr) : Kd.C k43 w A 0 [] := ⟨rfl, by omega, fun h => absurd h (by omega)⟩
def regionE (l : List S43) : Int := if badL l = true then 1 else if 200 < l.length then 4 else madeE (outOf orB l [])
def regionL (l : List S43) : List S43 := if badL l = true then [] else if 200 < l.length then [] else madeL (outOf orB l [])
def video_Region.f (l0 : List S43) : Option (List S43 × Int) := if l0.length ≤ 40000 then some (regionL l0, regionE l0) else none
set_option maxHeartbeats 2000000 in
theorem video_Region.calls (A0 : Option Addr) (c0 : Nat) (l0 : List S43) (r1 : List S43) (r2 : Int) (w : World) (hr0 : Kd.C k43 w A0 l0.length l0) (hc0 : l0.length ≤ c0) (h : video_Region.f l0 = some (r1, r2)) :
 Calls Try.prog 20 #[.slice A0 l0.length c0] w fun e w' => ∃ v0_ : Value, e = .returned (.tuple #[v0_, .int .i64 r2]) ∧ Kd.R k43 43 w' w.heap.size (fun _ => True) v0_ r1 ∧ Below w.heap.size w w' := by
 unfold video_Region.f at h
 by_cases hl : l0.length ≤ 40000
 · rw [if_pos hl] at h
   obtain ⟨rfl, rfl⟩ := Prod.mk.injEq .. ▸ (Option.some.inj h)
   have HB := Aside0.mk (bad71_calls A0 c0 l0 w hr0)
   have HR := Aside0.mk hr0
   clear hr0 h
   cases hb : badL l0 with
   | true =>
    rw [hb] at HB
    go_enter Try.func20, Try.ntmps20
    go_wp2_with (first | (go_at_call 70; refine HB.out.mono ?_; rintro e w1 ⟨rfl, hb1⟩))
    refine bodyPost_ret (v := .tuple #[.slice none 0 0, .int .i64 1]) (by simp [results, Try.results20, go_sem]) rfl ⟨_, by rw [show regionE l0 = 1 from by simp [regionE, hb]], ?_, hb1⟩
    rw [show regionL l0 = [] from by simp [regionL, hb]]
    exact Kd.R_nil _ _ _ _ _
   | false =>
    rw [hb] at HB
    by_cases h2 : 200 < l0.length
    · have h2b : decide ((l0.length : Int) > 200) = true := decide_eq_true (by omega)
      go_enter Try.func20, Try.ntmps20
      go_wp2_with (first | (go_at_call 70; refine HB.out.mono ?_; rintro e w1 ⟨rfl, hb1⟩))
      refine bodyPost_ret (v := .tuple #[.slice none 0 0, .int .i64 4]) (by simp [results, Try.results20, go_sem]) rfl ⟨_, by rw [show regionE l0 = 4 from by simp [regionE, hb, h2]], ?_, hb1⟩
      rw [show regionL l0 = [] from by simp [regionL, hb, h2]]
      exact Kd.R_nil _ _ _ _ _
    · have h2b : decide ((l0.length : Int) > 200) = false := decide_eq_false (by omega)
      have e1 : regionE l0 = madeE (outOf orB l0 []) := by simp [regionE, hb, h2]
      have e2 : regionL l0 = madeL (outOf orB l0 []) := by simp [regionL, hb, h2]
      have HM := fun w1 (hb1 : Below w.heap.size w w1) => Aside0.mk (made_walk orB 59 enters59 is59 A0 none c0 0 l0 [] w1 (Kd.C_below HR.out hb1) (C43_nil _ _) hl (by simp))
      rw [e1, e2]
      clear e1 e2
      go_enter Try.func20, Try.ntmps20
      go_wp2_with (first | (go_at_call 70; refine HB.out.mono ?_; rintro e w1 ⟨rfl, hb1⟩; have HM1 := HM w1 hb1) | (go_at_call 73; refine HM1.out.mono ?_; rintro e w2 ⟨v2, rfl, ho2, hb2⟩))
      refine bodyPost_ret (v := .tuple #[v2, .int .i64 (madeE (outOf orB l0 []))]) (by simp [results, Try.results20, go_sem]) rfl ⟨v2, rfl, ?_, hb1.trans (hb2.mono hb1.size)⟩
      exact Kd.R_lower (rect_R ho2) hb1.size
 · rw [if_neg hl] at h
   cases h
end Go.Proofs.Ythbajahklnpkcaa.PA

namespace Go.Proofs.Ythbajahklnpkcaa.PA
open Go.RowKit Go.Proofs.YthbajahklnpkcaaW.PrintWords Go.Proofs.YthbajahklnpkcaaW.PrintLast Go.Proofs.YthbajahklnpkcaaW.PrintMore
attribute [local go_sem] max2_int min2_int max_two min_two max_three min_three max_four min_four
set_option linter.unusedVariables false
set_option linter.unusedSimpArgs false
end Go.Proofs.Ythbajahklnpkcaa.PA

namespace Go.Proofs.Ythbajahklnpkcaa.PA
open Go.RowKit Go.Proofs.YthbajahklnpkcaaW.PrintWords Go.Proofs.YthbajahklnpkcaaW.PrintLast Go.Proofs.YthbajahklnpkcaaW.PrintMore
attribute [local go_sem] max2_int min2_int max_two min_two max_three min_three max_four min_four
set_option linter.unusedVariables false
set_option linter.unusedSimpArgs false
def video_plane_size.f (a0_0 : Int) (a0_1 : Int) (a0_2 : Int) (a0_3 : Int) (a1 : Int) : Option (Int) := if a1 = 0 then (some (wrap64 ((wrap64 (a0_0 * a0_1)) * a0_2))) else (some (wrap64 ((wrap64 ((wrap64 ((wrap64 ((wrap64 (Int.tdiv (wrap64 ((wrap64 (a0_0 + 4)) - 1)) 4)) * (wrap64 (Int.tdiv (wrap64 ((wrap64 (a0_1 + 4)) - 1)) 4)))) * 4)) * 4)) * a0_2)))
set_option maxHeartbeats 8000000 in
set_option maxRecDepth 100000 in
theorem video_plane_size.calls (a0_0 : Int) (a0_1 : Int) (a0_2 : Int) (a0_3 : Int) (a1 : Int) (r : Int) (w : World) (h : video_plane_size.f a0_0 a0_1 a0_2 a0_3 a1 = some r) :
 Calls Try.prog 132 #[.agg #[.int .i64 a0_0, .int .i64 a0_1, .int .i64 a0_2, .int .i64 a0_3], .int .i64 a1] w fun e w' => e = .returned (.int .i64 r) ∧ Below w.heap.size w w' := by
 have hu154 := Try.underlying154
 have HB := Aside0.mk (Below.refl w.heap.size w)
 have H : (if a1 = 0 then (some (wrap64 ((wrap64 (a0_0 * a0_1)) * a0_2))) else (some (wrap64 ((wrap64 ((wrap64 ((wrap64 ((wrap64 (Int.tdiv (wrap64 ((wrap64 (a0_0 + 4)) - 1)) 4)) * (wrap64 (Int.tdiv (wrap64 ((wrap64 (a0_1 + 4)) - 1)) 4)))) * 4)) * 4)) * a0_2)))) = some r := h
 clear h
 by_cases c3 : a1 = 0
 · rw [if_pos c3] at H
   have c3b0 : (a1 == 0) = true := beq_iff_eq.mpr c3
   have c3b1 : (a1 != 0) = false := bne_eq_false_iff_eq.mpr c3
   clear c3
   obtain rfl := Option.some.inj H
   go_enter Try.func132, Try.ntmps132
   go_wp2_with (first | ((with_reducible refine gate_dst (N := 2) rfl ?_); refine box_event ?hg (N := 2) ?hd (cs := #[.int .i64 a0_0, .int .i64 a0_1, .int .i64 a0_2, .int .i64 a0_3]) (t := 154) ?hr ?_; (case hd => rfl); (case hg => rfl); (case hr => first | (go_simp; done) | (go_simp; rfl)); intro gb240 hg w4 hbox hb; have n0_ := Aside0.mk (below_step (by repeat (first | (with_reducible first | exact HB.out | apply below_alloc | apply pw_below_drewN | apply below_drew1) | exact HB.out)) hb); have n1_ := Aside0.mk (hbox); have n2_ := Aside0.mk ((by rw [hg]; exact (below_size (by repeat (first | (with_reducible first | exact HB.out | apply below_alloc | apply pw_below_drewN | apply below_drew1) | exact HB.out))) : w.heap.size ≤ gb240)); have n3_ := Aside0.mk ((by rw [hg]; exact (below_size (by repeat (first | (with_reducible first | exact HB.out | apply below_alloc | apply pw_below_drewN | apply below_drew1) | exact HB.out))) : w.heap.size ≤ gb240)); clear HB; have HB := n0_; have BK240 := n1_; have GW240 := n2_; have GE240 := n3_; clear n0_ n1_ n2_ n3_; clear hb hbox hg; have hcz5_0 : w4.cell? ⟨gb240, 0, none⟩ = some (.int .i64 a0_0) := (blk_cell BK240.out 0).trans rfl; have hcz5_1 : w4.cell? ⟨gb240, 1, none⟩ = some (.int .i64 a0_1) := (blk_cell BK240.out 1).trans rfl; have hcz5_2 : w4.cell? ⟨gb240, 2, none⟩ = some (.int .i64 a0_2) := (blk_cell BK240.out 2).trans rfl; have hcz5_3 : w4.cell? ⟨gb240, 3, none⟩ = some (.int .i64 a0_3) := (blk_cell BK240.out 3).trans rfl; have hfz5_0 := blk_frozen BK240.out 0; have hfz5_1 := blk_frozen BK240.out 1; have hfz5_2 := blk_frozen BK240.out 2; have hfz5_3 := blk_frozen BK240.out 3))
   go_ret
   exact ⟨by first | rfl | (simp [errW_none, errW_some] <;> rfl) | (simp [*, errW_none, errW_some] <;> rfl), by repeat (first | (with_reducible first | exact HB.out | apply below_alloc | apply pw_below_drewN | apply below_drew1 | refine below_set ?_ GE240.out) | exact HB.out)⟩
 · rw [if_neg c3] at H
   have c3b0 : (a1 == 0) = false := beq_eq_false_iff_ne.mpr c3
   have c3b1 : (a1 != 0) = true := bne_iff_ne.mpr c3
   obtain rfl := Option.some.inj H
   go_enter Try.func132, Try.ntmps132
   go_wp2_with (first | ((with_reducible refine gate_dst (N := 2) rfl ?_); refine box_event ?hg (N := 2) ?hd (cs := #[.int .i64 a0_0, .int .i64 a0_1, .int .i64 a0_2, .int .i64 a0_3]) (t := 154) ?hr ?_; (case hd => rfl); (case hg => rfl); (case hr => first | (go_simp; done) | (go_simp; rfl)); intro gb240 hg w6 hbox hb; have n0_ := Aside0.mk (below_step (by repeat (first | (with_reducible first | exact HB.out | apply below_alloc | apply pw_below_drewN | apply below_drew1) | exact HB.out)) hb); have n1_ := Aside0.mk (hbox); have n2_ := Aside0.mk ((by rw [hg]; exact (below_size (by repeat (first | (with_reducible first | exact HB.out | apply below_alloc | apply pw_below_drewN | apply below_drew1) | exact HB.out))) : w.heap.size ≤ gb240)); have n3_ := Aside0.mk ((by rw [hg]; exact (below_size (by repeat (first | (with_reducible first | exact HB.out | apply below_alloc | apply pw_below_drewN | apply below_drew1) | exact HB.out))) : w.heap.size ≤ gb240)); clear HB; have HB := n0_; have BK240 := n1_; have GW240 := n2_; have GE240 := n3_; clear n0_ n1_ n2_ n3_; clear hb hbox hg; have hcz7_0 : w6.cell? ⟨gb240, 0, none⟩ = some (.int .i64 a0_0) := (blk_cell BK240.out 0).trans rfl; have hcz7_1 : w6.cell? ⟨gb240, 1, none⟩ = some (.int .i64 a0_1) := (blk_cell BK240.out 1).trans rfl; have hcz7_2 : w6.cell? ⟨gb240, 2, none⟩ = some (.int .i64 a0_2) := (blk_cell BK240.out 2).trans rfl; have hcz7_3 : w6.cell? ⟨gb240, 3, none⟩ = some (.int .i64 a0_3) := (blk_cell BK240.out 3).trans rfl; have hfz7_0 := blk_frozen BK240.out 0; have hfz7_1 := blk_frozen BK240.out 1; have hfz7_2 := blk_frozen BK240.out 2; have hfz7_3 := blk_frozen BK240.out 3))
   go_ret
   exact ⟨by first | rfl | (simp [errW_none, errW_some] <;> rfl) | (simp [*, errW_none, errW_some] <;> rfl), by repeat (first | (with_reducible first | exact HB.out | apply below_alloc | apply pw_below_drewN | apply below_drew1 | refine below_set ?_ GE240.out) | exact HB.out)⟩
end Go.Proofs.Ythbajahklnpkcaa.PA

namespace Go.Proofs.Ythbajahklnpkcaa.PA
open Go.RowKit Go.Proofs.YthbajahklnpkcaaW.PrintWords Go.Proofs.YthbajahklnpkcaaW.PrintLast Go.Proofs.YthbajahklnpkcaaW.PrintMore
attribute [local go_sem] max2_int min2_int max_two min_two max_three min_three max_four min_four
set_option linter.unusedVariables false
set_option linter.unusedSimpArgs false
def video_plane_at.f (a0_0 : Int) (a0_1 : Int) (a0_2 : Int) (a0_3 : Int) (a1 : Int) (a2 : Int) (a3 : Int) : Option (Int) := if a1 = 0 then (some (wrap64 ((wrap64 ((wrap64 (a3 * a0_0)) + a2)) * a0_2))) else (some (wrap64 ((wrap64 ((wrap64 ((wrap64 ((wrap64 ((wrap64 ((wrap64 ((wrap64 (Int.tdiv a3 4)) * (wrap64 (Int.tdiv (wrap64 ((wrap64 (a0_0 + 4)) - 1)) 4)))) + (wrap64 (Int.tdiv a2 4)))) * 4)) * 4)) + (wrap64 ((Int.tmod a3 4) * 4)))) + (Int.tmod a2 4))) * a0_2)))
set_option maxHeartbeats 8000000 in
set_option maxRecDepth 100000 in
theorem video_plane_at.calls (a0_0 : Int) (a0_1 : Int) (a0_2 : Int) (a0_3 : Int) (a1 : Int) (a2 : Int) (a3 : Int) (r : Int) (w : World) (h : video_plane_at.f a0_0 a0_1 a0_2 a0_3 a1 a2 a3 = some r) :
 Calls Try.prog 133 #[.agg #[.int .i64 a0_0, .int .i64 a0_1, .int .i64 a0_2, .int .i64 a0_3], .int .i64 a1, .int .i64 a2, .int .i64 a3] w fun e w' => e = .returned (.int .i64 r) ∧ Below w.heap.size w w' := by
 have hu154 := Try.underlying154
 have HB := Aside0.mk (Below.refl w.heap.size w)
 have H : (if a1 = 0 then (some (wrap64 ((wrap64 ((wrap64 (a3 * a0_0)) + a2)) * a0_2))) else (some (wrap64 ((wrap64 ((wrap64 ((wrap64 ((wrap64 ((wrap64 ((wrap64 ((wrap64 (Int.tdiv a3 4)) * (wrap64 (Int.tdiv (wrap64 ((wrap64 (a0_0 + 4)) - 1)) 4)))) + (wrap64 (Int.tdiv a2 4)))) * 4)) * 4)) + (wrap64 ((Int.tmod a3 4) * 4)))) + (Int.tmod a2 4))) * a0_2)))) = some r := h
 clear h
 by_cases c5 : a1 = 0
 · rw [if_pos c5] at H
   have c5b0 : (a1 == 0) = true := beq_iff_eq.mpr c5
   have c5b1 : (a1 != 0) = false := bne_eq_false_iff_eq.mpr c5
   clear c5
   obtain rfl := Option.some.inj H
   go_enter Try.func133, Try.ntmps133
   go_wp2_with (first | ((with_reducible refine gate_dst (N := 4) rfl ?_); refine box_event ?hg (N := 4) ?hd (cs := #[.int .i64 a0_0, .int .i64 a0_1, .int .i64 a0_2, .int .i64 a0_3]) (t := 154) ?hr ?_; (case hd => rfl); (case hg => rfl); (case hr => first | (go_simp; done) | (go_simp; rfl)); intro gb241 hg w6 hbox hb; have n0_ := Aside0.mk (below_step (by repeat (first | (with_reducible first | exact HB.out | apply below_alloc | apply pw_below_drewN | apply below_drew1) | exact HB.out)) hb); have n1_ := Aside0.mk (hbox); have n2_ := Aside0.mk ((by rw [hg]; exact (below_size (by repeat (first | (with_reducible first | exact HB.out | apply below_alloc | apply pw_below_drewN | apply below_drew1) | exact HB.out))) : w.heap.size ≤ gb241)); have n3_ := Aside0.mk ((by rw [hg]; exact (below_size (by repeat (first | (with_reducible first | exact HB.out | apply below_alloc | apply pw_below_drewN | apply below_drew1) | exact HB.out))) : w.heap.size ≤ gb241)); clear HB; have HB := n0_; have BK241 := n1_; have GW241 := n2_; have GE241 := n3_; clear n0_ n1_ n2_ n3_; clear hb hbox hg; have hcz7_0 : w6.cell? ⟨gb241, 0, none⟩ = some (.int .i64 a0_0) := (blk_cell BK241.out 0).trans rfl; have hcz7_1 : w6.cell? ⟨gb241, 1, none⟩ = some (.int .i64 a0_1) := (blk_cell BK241.out 1).trans rfl; have hcz7_2 : w6.cell? ⟨gb241, 2, none⟩ = some (.int .i64 a0_2) := (blk_cell BK241.out 2).trans rfl; have hcz7_3 : w6.cell? ⟨gb241, 3, none⟩ = some (.int .i64 a0_3) := (blk_cell BK241.out 3).trans rfl; have hfz7_0 := blk_frozen BK241.out 0; have hfz7_1 := blk_frozen BK241.out 1; have hfz7_2 := blk_frozen BK241.out 2; have hfz7_3 := blk_frozen BK241.out 3))
   go_ret
   exact ⟨by first | rfl | (simp [errW_none, errW_some] <;> rfl) | (simp [*, errW_none, errW_some] <;> rfl), by repeat (first | (with_reducible first | exact HB.out | apply below_alloc | apply pw_below_drewN | apply below_drew1 | refine below_set ?_ GE241.out) | exact HB.out)⟩
 · rw [if_neg c5] at H
   have c5b0 : (a1 == 0) = false := beq_eq_false_iff_ne.mpr c5
   have c5b1 : (a1 != 0) = true := bne_iff_ne.mpr c5
   obtain rfl := Option.some.inj H
   go_enter Try.func133, Try.ntmps133
   go_wp2_with (first | ((with_reducible refine gate_dst (N := 4) rfl ?_); refine box_event ?hg (N := 4) ?hd (cs := #[.int .i64 a0_0, .int .i64 a0_1, .int .i64 a0_2, .int .i64 a0_3]) (t := 154) ?hr ?_; (case hd => rfl); (case hg => rfl); (case hr => first | (go_simp; done) | (go_simp; rfl)); intro gb241 hg w8 hbox hb; have n0_ := Aside0.mk (below_step (by repeat (first | (with_reducible first | exact HB.out | apply below_alloc | apply pw_below_drewN | apply below_drew1) | exact HB.out)) hb); have n1_ := Aside0.mk (hbox); have n2_ := Aside0.mk ((by rw [hg]; exact (below_size (by repeat (first | (with_reducible first | exact HB.out | apply below_alloc | apply pw_below_drewN | apply below_drew1) | exact HB.out))) : w.heap.size ≤ gb241)); have n3_ := Aside0.mk ((by rw [hg]; exact (below_size (by repeat (first | (with_reducible first | exact HB.out | apply below_alloc | apply pw_below_drewN | apply below_drew1) | exact HB.out))) : w.heap.size ≤ gb241)); clear HB; have HB := n0_; have BK241 := n1_; have GW241 := n2_; have GE241 := n3_; clear n0_ n1_ n2_ n3_; clear hb hbox hg; have hcz9_0 : w8.cell? ⟨gb241, 0, none⟩ = some (.int .i64 a0_0) := (blk_cell BK241.out 0).trans rfl; have hcz9_1 : w8.cell? ⟨gb241, 1, none⟩ = some (.int .i64 a0_1) := (blk_cell BK241.out 1).trans rfl; have hcz9_2 : w8.cell? ⟨gb241, 2, none⟩ = some (.int .i64 a0_2) := (blk_cell BK241.out 2).trans rfl; have hcz9_3 : w8.cell? ⟨gb241, 3, none⟩ = some (.int .i64 a0_3) := (blk_cell BK241.out 3).trans rfl; have hfz9_0 := blk_frozen BK241.out 0; have hfz9_1 := blk_frozen BK241.out 1; have hfz9_2 := blk_frozen BK241.out 2; have hfz9_3 := blk_frozen BK241.out 3))
   go_ret
   exact ⟨by first | rfl | (simp [errW_none, errW_some] <;> rfl) | (simp [*, errW_none, errW_some] <;> rfl), by repeat (first | (with_reducible first | exact HB.out | apply below_alloc | apply pw_below_drewN | apply below_drew1 | refine below_set ?_ GE241.out) | exact HB.out)⟩
end Go.Proofs.Ythbajahklnpkcaa.PA

namespace Go.Proofs.Ythbajahklnpkcaa.PA
open Go.RowKit Go.Shelf Go.Proofs.YthbajahklnpkcaaW.PrintWords Go.Proofs.YthbajahklnpkcaaW.PrintLast Go.Proofs.YthbajahklnpkcaaW.PrintMore
set_option linter.unusedVariables false
set_option linter.unusedSimpArgs false
def packN (n : Int) : Int := if n = 1 then 1 else if n = 2 then 3 else 4
theorem idx1 (w : World) : (Instr.index 170 (.agg #[.nilIface, .iface 167 (.agg #[.int .i64 1]), .iface 167 (.agg #[.int .i64 3]), .iface 167 (.agg #[.int .i64 4]), .iface 169 (.agg #[])]) (.int .i64 1)).run Try.prog w = .ok (.iface 167 (.agg #[.int .i64 1])) w := by kernel_rfl
theorem idx2 (w : World) : (Instr.index 170 (.agg #[.nilIface, .iface 167 (.agg #[.int .i64 1]), .iface 167 (.agg #[.int .i64 3]), .iface 167 (.agg #[.int .i64 4]), .iface 169 (.agg #[])]) (.int .i64 2)).run Try.prog w = .ok (.iface 167 (.agg #[.int .i64 3])) w := by kernel_rfl
theorem idx3 (w : World) : (Instr.index 170 (.agg #[.nilIface, .iface 167 (.agg #[.int .i64 1]), .iface 167 (.agg #[.int .i64 3]), .iface 167 (.agg #[.int .i64 4]), .iface 169 (.agg #[])]) (.int .i64 3)).run Try.prog w = .ok (.iface 167 (.agg #[.int .i64 4])) w := by kernel_rfl
set_option maxRecDepth 100000 in
theorem of_calls (n : Int) (h1 : 1 ≤ n) (h3 : n ≤ 3) (w : World) : Calls Try.prog 131 #[.int .i64 n] w fun e w' => e = .returned (.iface 167 (.agg #[.int .i64 (packN n)])) ∧ w' = w := by
 rcases (show n = 1 ∨ n = 2 ∨ n = 3 by omega) with rfl | rfl | rfl
 · have hid := idx1 w
   go_enter Try.func131, Try.ntmps131
   go_wp2
   go_ret
   exact ⟨rfl, rfl⟩
 · have hid := idx2 w
   go_enter Try.func131, Try.ntmps131
   go_wp2
   go_ret
   exact ⟨rfl, rfl⟩
 · have hid := idx3 w
   go_enter Try.func131, Try.ntmps131
   go_wp2
   go_ret
   exact ⟨rfl, rfl⟩
set_option maxRecDepth 100000 in
theorem planes_calls (b x y : Int) (w : World) : Calls Try.prog 179 #[.agg #[.int .i64 b], .int .i64 x, .int .i64 y] w fun e w' => e = .returned (.slice (some ⟨w.heap.size + 1, 0, none⟩) 1 1) ∧ Blk w' (w.heap.size + 1) #[.int .i64 x, .int .i64 y, .int .i64 b, .int .i64 1] 154 ∧ Below w.heap.size w w' ∧ w'.heap.size = w.heap.size + 2 := by
 have HB := Blk.new w #[.int .i64 b] 167
 have g0 := HB.cell 0 (v := .int .i64 b) rfl
 go_enter Try.func179, Try.ntmps179
 go_wp2
 go_ret
 refine ⟨rfl, ?_, ((Below.refl _ w).alloc (Nat.le_refl _) _).alloc (by simp) _, by simp⟩
 have := Blk.new (w.alloc (.cells #[.int .i64 b] 167)) #[.int .i64 x, .int .i64 y, .int .i64 b, .int .i64 1] 154
 rw [World.size_alloc] at this
 exact this
def szP (m w h b : Int) : Int := if m = 0 then w * h * b else (w + 3) / 4 * ((h + 3) / 4) * 4 * 4 * b
theorem mul_bd {a b : Int} {A B : Int} (h1 : 0 ≤ a) (h2 : a ≤ A) (h3 : 0 ≤ b) (h4 : b ≤ B) : 0 ≤ a * b ∧ a * b ≤ A * B := ⟨Int.mul_nonneg h1 h3, Int.mul_le_mul h2 h4 h3 (Int.le_trans h1 h2)⟩
theorem szP_eq (m w h b : Int) (hw0 : 0 ≤ w) (hw1 : w ≤ 64) (hh0 : 0 ≤ h) (hh1 : h ≤ 64) (hb0 : 0 ≤ b) (hb1 : b ≤ 4) : video_plane_size.f w h b 1 m = some (szP m w h b) ∧ 0 ≤ szP m w h b ∧ szP m w h b ≤ 16384 := by
 unfold video_plane_size.f szP
 split
 · obtain ⟨a1, a2⟩ := mul_bd hw0 hw1 hh0 hh1
   obtain ⟨a3, a4⟩ := mul_bd a1 a2 hb0 hb1
   rw [w64 (x := w * h) (by omega) (by omega), w64 (x := w * h * b) (by omega) (by omega)]
   exact ⟨rfl, a3, by omega⟩
 · rw [w64 (x := w + 4) (by omega) (by omega), w64 (x := w + 4 - 1) (by omega) (by omega), w64 (x := h + 4) (by omega) (by omega), w64 (x := h + 4 - 1) (by omega) (by omega)]
   rw [Int.tdiv_eq_ediv_of_nonneg (show 0 ≤ w + 4 - 1 by omega), Int.tdiv_eq_ediv_of_nonneg (show 0 ≤ h + 4 - 1 by omega)]
   rw [show w + 4 - 1 = w + 3 by omega, show h + 4 - 1 = h + 3 by omega]
   obtain ⟨a1, a2⟩ := mul_bd (a := (w + 3) / 4) (A := 16) (by omega) (by omega) (b := (h + 3) / 4) (B := 16) (by omega) (by omega)
   rw [w64 (x := (w + 3) / 4) (by omega) (by omega), w64 (x := (h + 3) / 4) (by omega) (by omega)]
   generalize (w + 3) / 4 * ((h + 3) / 4) = q at a1 a2 ⊢
   rw [w64 (x := q) (by omega) (by omega), w64 (x := q * 4) (by omega) (by omega), w64 (x := q * 4 * 4) (by omega) (by omega)]
   obtain ⟨a3, a4⟩ := mul_bd (a := q * 4 * 4) (A := 4096) (by omega) (by omega) hb0 hb1
   rw [w64 (x := q * 4 * 4 * b) (by omega) (by omega)]
   exact ⟨rfl, a3, by omega⟩
theorem method_packed : ∀ (b : Int) w, (method 311 167 (.agg #[.int .i64 b]) "continuo/video.planes").run Try.prog w = .ok (179, .agg #[.int .i64 b]) w := fun _ _ => by kernel_rfl
def video_size.f (a0 a1 a2 a3 : Int) : Option Int := if 1 ≤ a0 ∧ a0 ≤ 3 ∧ 0 ≤ a2 ∧ a2 ≤ 64 ∧ 0 ≤ a3 ∧ a3 ≤ 64 then some (szP a1 a2 a3 (packN a0)) else none
set_option maxRecDepth 100000 in
set_option maxHeartbeats 4000000 in
theorem video_size.calls (a0 a1 a2 a3 : Int) (r : Int) (w : World) (h : video_size.f a0 a1 a2 a3 = some r) :
 Calls Try.prog 84 #[.int .i64 a0, .int .i64 a1, .int .i64 a2, .int .i64 a3] w fun e w' => e = .returned (.int .i64 r) ∧ Below w.heap.size w w' := by
 unfold video_size.f at h
 split at h
 · rename_i hg
   obtain ⟨g1, g2, g3, g4, g5, g6⟩ := hg
   obtain rfl := Option.some.inj h
   clear h
   have hp : 0 ≤ packN a0 ∧ packN a0 ≤ 4 := by unfold packN; split <;> (try split) <;> omega
   obtain ⟨hs, s0, s1⟩ := szP_eq a1 a2 a3 (packN a0) g3 g4 g5 g6 hp.1 hp.2
   have HO := Aside0.mk (of_calls a0 g1 g2 w)
   have hmp := method_packed (packN a0)
   generalize packN a0 = b at hs HO hmp s0 s1 ⊢
   have HPl := Aside0.mk (planes_calls b a2 a3 w)
   have HSz := fun w' => Aside0.mk (video_plane_size.calls a2 a3 b 1 a1 _ w' hs)
   generalize szP a1 a2 a3 b = z at HSz s0 s1 ⊢
   clear hs hp
   have hz : wrap64 (0 + z) = z := by rw [Int.zero_add]; exact w64 (by omega) (by omega)
   go_enter Try.func84, Try.ntmps84
   go_wp2_with (first | (go_at_call 131; refine HO.out.mono ?_; rintro e w1 ⟨rfl, rfl⟩) | (go_at_call 179; refine HPl.out.mono ?_; rintro e w2 ⟨rfl, hk2, hb2, hs2⟩))
   have HK2 := Aside0.mk hk2
   have HB2 := Aside0.mk hb2
   clear hk2 hb2
   go_loopw [9, 11, 18] (fun s9 s11 s18 wr => ∃ i : Nat, i ≤ 1 ∧ s18 = .int .i64 i ∧ s9 = .int .i64 (if i = 0 then 0 else z) ∧ Aside0 (Below w2.heap.size w2 wr))
    (fun s9 s11 s18 wr => 1 - (match s18 with | .int _ x => x.toNat | _ => 0))
   case atStart => exact ⟨0, by omega, rfl, rfl, ⟨Below.refl _ _⟩⟩
   case round =>
    obtain ⟨i, hi, rfl, rfl, HB⟩ := hrel
    rcases (show i = 0 ∨ i = 1 by omega) with rfl | rfl
    · have hk := HK2.out.below_ HB.out
      have c0 := hk.cell 0 (v := .int .i64 a2) rfl
      have c1 := hk.cell 1 (v := .int .i64 a3) rfl
      have c2 := hk.cell 2 (v := .int .i64 b) rfl
      have c3 := hk.cell 3 (v := .int .i64 1) rfl
      have hx := Blk.new wr #[.int .i64 a2, .int .i64 a3, .int .i64 b, .int .i64 1] 154
      have d0 := hx.cell 0 (v := .int .i64 a2) rfl
      have d1 := hx.cell 1 (v := .int .i64 a3) rfl
      have d2 := hx.cell 2 (v := .int .i64 b) rfl
      have d3 := hx.cell 3 (v := .int .i64 1) rfl
      go_wp2_with (first | (go_at_call 132; refine (HSz _).out.mono ?_; rintro e w4 ⟨rfl, hb4⟩))
      go_roundw
      case rel => exact ⟨1, by omega, by go_num, by first | rfl | simp, ⟨(HB.out.alloc HB.out.size _).trans (hb4.mono (by have := HB.out.size; simp; omega))⟩⟩
      case measure => simp
    · go_wp2
      go_ret
      exact ⟨by first | rfl | simp, HB2.out.trans (HB.out.mono HB2.out.size)⟩
 · cases h
end Go.Proofs.Ythbajahklnpkcaa.PA

namespace Go.Proofs.Ythbajahklnpkcaa.PA
open Go.RowKit Go.Shelf Go.Proofs.YthbajahklnpkcaaW.PrintWords Go.Proofs.YthbajahklnpkcaaW.PrintLast Go.Proofs.YthbajahklnpkcaaW.PrintMore
set_option linter.unusedVariables false
set_option linter.unusedSimpArgs false
theorem mk16 (W : World) : (Instr.makeSlice 103 (.int .i64 16) (.int .i64 16)).run Try.prog W = .ok (.slice (some ⟨W.heap.size, 0, none⟩) 16 16) (W.alloc (.cells #[.int .u8 0, .int .u8 0, .int .u8 0, .int .u8 0, .int .u8 0, .int .u8 0, .int .u8 0, .int .u8 0, .int .u8 0, .int .u8 0, .int .u8 0, .int .u8 0, .int .u8 0, .int .u8 0, .int .u8 0, .int .u8 0] 5)) := by kernel_rfl
theorem size5 (w : World) : (Go.sizeOf 5).run Try.prog w = .ok 1 w := by kernel_rfl
def iOf : Value → Int
 | .int _ x => x
 | _ => 0
def outK : Nat → Array Value
 | 0 => #[.int .u8 0, .int .u8 0, .int .u8 0, .int .u8 0, .int .u8 0, .int .u8 0, .int .u8 0, .int .u8 0, .int .u8 0, .int .u8 0, .int .u8 0, .int .u8 0, .int .u8 0, .int .u8 0, .int .u8 0, .int .u8 0]
 | 1 => #[.int .u8 97, .int .u8 0, .int .u8 0, .int .u8 0, .int .u8 0, .int .u8 0, .int .u8 0, .int .u8 0, .int .u8 0, .int .u8 0, .int .u8 0, .int .u8 0, .int .u8 0, .int .u8 0, .int .u8 0, .int .u8 0]
 | 2 => #[.int .u8 97, .int .u8 98, .int .u8 0, .int .u8 0, .int .u8 0, .int .u8 0, .int .u8 0, .int .u8 0, .int .u8 0, .int .u8 0, .int .u8 0, .int .u8 0, .int .u8 0, .int .u8 0, .int .u8 0, .int .u8 0]
 | 3 => #[.int .u8 97, .int .u8 98, .int .u8 0, .int .u8 0, .int .u8 99, .int .u8 0, .int .u8 0, .int .u8 0, .int .u8 0, .int .u8 0, .int .u8 0, .int .u8 0, .int .u8 0, .int .u8 0, .int .u8 0, .int .u8 0]
 | _ => #[.int .u8 97, .int .u8 98, .int .u8 0, .int .u8 0, .int .u8 99, .int .u8 100, .int .u8 0, .int .u8 0, .int .u8 0, .int .u8 0, .int .u8 0, .int .u8 0, .int .u8 0, .int .u8 0, .int .u8 0, .int .u8 0]
structure TS (n0 ob pb : Nat) (w : World) (k : Nat) (W : World) : Prop where
 p : Blk W n0 #[.int .i64 1, .int .i64 0, .int .i64 2, .int .i64 2, .string ⟨#[97, 98, 99, 100]⟩] 49
 r : Blk W (n0 + 1) #[.int .i64 0, .int .i64 0, .int .i64 0, .int .i64 0, .string ⟨#[]⟩] 49
 o : Blk W ob (outK k) 5
 q : Blk W pb #[.int .i64 2, .int .i64 2, .int .i64 1, .int .i64 1] 154
 b : Below w.heap.size w W
theorem TS.bel {n0 ob pb k : Nat} {w W W' : World} (h : TS n0 ob pb w k W) (hb : Below W.heap.size W W') : TS n0 ob pb w k W' :=
 ⟨h.p.below_ hb, h.r.below_ hb, h.o.below_ hb, h.q.below_ hb, h.b.trans (hb.mono h.b.size)⟩
theorem TS.put {n0 ob pb k k' pos : Nat} {w W : World} {v : Value} (h : TS n0 ob pb w k W) (h1 : n0 + 1 < ob) (h2 : ob < pb) (h3 : w.heap.size ≤ ob) (e : (outK k).setIfInBounds pos v = outK k') : TS n0 ob pb w k' (W.setCell ⟨ob, pos, none⟩ v) :=
 ⟨h.p.other (a := ⟨ob, pos, none⟩) v (by show n0 ≠ ob; omega), h.r.other (a := ⟨ob, pos, none⟩) v (by show n0 + 1 ≠ ob; omega), e ▸ h.o.set pos v, h.q.other (a := ⟨ob, pos, none⟩) v (by show pb ≠ ob; omega), h.b.setCell (p := ⟨ob, pos, none⟩) h3 _⟩
set_option maxRecDepth 100000 in
set_option maxHeartbeats 8000000 in
theorem turned_awake (w : World) : Calls Try.prog 87 #[.agg #[.int .i64 1, .int .i64 0, .int .i64 2, .int .i64 2, .string ⟨#[97, 98, 99, 100]⟩], .int .i64 1] w fun e w' => e = .returned (.agg #[.int .i64 1, .int .i64 1, .int .i64 2, .int .i64 2, .string ⟨#[97, 98, 0, 0, 99, 100, 0, 0, 0, 0, 0, 0, 0, 0, 0, 0]⟩]) ∧ Below w.heap.size w w' := by
 have HB := Blk.new w #[.int .i64 1, .int .i64 0, .int .i64 2, .int .i64 2, .string ⟨#[97, 98, 99, 100]⟩] 49
 have HZ := fun w' => Aside0.mk (video_size.calls 1 1 2 2 16 w' (by decide))
 have b0 := (HB.alloc (.cells #[.int .i64 0, .int .i64 0, .int .i64 0, .int .i64 0, .string ⟨#[]⟩] 49)).cell 0 (v := .int .i64 1) rfl
 have b1 := (HB.alloc (.cells #[.int .i64 0, .int .i64 0, .int .i64 0, .int .i64 0, .string ⟨#[]⟩] 49)).cell 1 (v := .int .i64 0) rfl
 have b2 := (HB.alloc (.cells #[.int .i64 0, .int .i64 0, .int .i64 0, .int .i64 0, .string ⟨#[]⟩] 49)).cell 2 (v := .int .i64 2) rfl
 have b3 := (HB.alloc (.cells #[.int .i64 0, .int .i64 0, .int .i64 0, .int .i64 0, .string ⟨#[]⟩] 49)).cell 3 (v := .int .i64 2) rfl
 have hmk := mk16
 go_enter Try.func87, Try.ntmps87
 go_wp2_with (first | (go_at_call 84; refine (HZ _).out.mono ?_; rintro e w1 ⟨rfl, hb1⟩))
 have HP1 := (HB.alloc (.cells #[.int .i64 0, .int .i64 0, .int .i64 0, .int .i64 0, .string ⟨#[]⟩] 49)).below_ hb1
 have HR1 := (Blk.new (w.alloc (.cells #[.int .i64 1, .int .i64 0, .int .i64 2, .int .i64 2, .string ⟨#[97, 98, 99, 100]⟩] 49)) #[.int .i64 0, .int .i64 0, .int .i64 0, .int .i64 0, .string ⟨#[]⟩] 49).below_ hb1
 rw [World.size_alloc] at HR1
 have hB1 : Below w.heap.size w w1 := ((((Below.refl _ w).alloc (Nat.le_refl _) _).alloc (by simp) _)).trans (hb1.mono (by simp; omega))
 have hs1 : w.heap.size + 2 ≤ w1.heap.size := by have := hb1.size; simpa using this
 obtain ⟨w2, hw2⟩ : ∃ w2, w1.alloc (.cells #[.int .u8 0, .int .u8 0, .int .u8 0, .int .u8 0, .int .u8 0, .int .u8 0, .int .u8 0, .int .u8 0, .int .u8 0, .int .u8 0, .int .u8 0, .int .u8 0, .int .u8 0, .int .u8 0, .int .u8 0, .int .u8 0] 5) = w2 := ⟨_, rfl⟩
 obtain ⟨ob, hob⟩ : ∃ ob, w1.heap.size = ob := ⟨_, rfl⟩
 have HP2 := HP1.alloc (.cells #[.int .u8 0, .int .u8 0, .int .u8 0, .int .u8 0, .int .u8 0, .int .u8 0, .int .u8 0, .int .u8 0, .int .u8 0, .int .u8 0, .int .u8 0, .int .u8 0, .int .u8 0, .int .u8 0, .int .u8 0, .int .u8 0] 5)
 have HR2 := HR1.alloc (.cells #[.int .u8 0, .int .u8 0, .int .u8 0, .int .u8 0, .int .u8 0, .int .u8 0, .int .u8 0, .int .u8 0, .int .u8 0, .int .u8 0, .int .u8 0, .int .u8 0, .int .u8 0, .int .u8 0, .int .u8 0, .int .u8 0] 5)
 have HO2 : Blk (w1.alloc (.cells #[.int .u8 0, .int .u8 0, .int .u8 0, .int .u8 0, .int .u8 0, .int .u8 0, .int .u8 0, .int .u8 0, .int .u8 0, .int .u8 0, .int .u8 0, .int .u8 0, .int .u8 0, .int .u8 0, .int .u8 0, .int .u8 0] 5)) w1.heap.size (outK 0) 5 := Blk.new w1 _ 5
 have HB2 := hB1.alloc hB1.size (.cells #[.int .u8 0, .int .u8 0, .int .u8 0, .int .u8 0, .int .u8 0, .int .u8 0, .int .u8 0, .int .u8 0, .int .u8 0, .int .u8 0, .int .u8 0, .int .u8 0, .int .u8 0, .int .u8 0, .int .u8 0, .int .u8 0] 5)
 have hs2 : ob < w2.heap.size := by rw [← hw2, ← hob]; simp
 rw [hw2, hob]
 rw [hw2] at HP2 HR2 HO2 HB2
 rw [hob] at HO2 hs1
 have hno : w.heap.size + 1 < ob := by omega
 clear hw2 hob HP1 HR1 hB1 hb1 b0 b1 b2 b3 HB HZ hmk
 have b0 := HP2.cell 0 (v := .int .i64 1) rfl
 have b2 := HP2.cell 2 (v := .int .i64 2) rfl
 have b3 := HP2.cell 3 (v := .int .i64 2) rfl
 have HP := Aside0.mk HP2
 have HR := Aside0.mk HR2
 have HO := Aside0.mk HO2
 have HBw := Aside0.mk HB2
 clear HP2 HR2 HO2 HB2
 have HOF := fun w' => Aside0.mk (of_calls 1 (by decide) (by decide) w')
 rw [show packN 1 = 1 from rfl] at HOF
 have hmp := method_packed 1
 have HPL := fun w' => Aside0.mk (planes_calls 1 2 2 w')
 go_region_held3 (fun W' => W'.cell? ⟨w.heap.size, 0, none⟩ = some (.int .i64 1) ∧ W'.cell? ⟨w.heap.size, 2, none⟩ = some (.int .i64 2) ∧ W'.cell? ⟨w.heap.size, 3, none⟩ = some (.int .i64 2))
  (first | exact ⟨b0, b2, b3⟩ | exact ⟨(hb3.cell (p := ⟨w.heap.size, 0, none⟩) hP0).trans b0, (hb3.cell (p := ⟨w.heap.size, 2, none⟩) hP0).trans b2, (hb3.cell (p := ⟨w.heap.size, 3, none⟩) hP0).trans b3⟩)
  (first
   | (go_at_call 131; refine (HOF _).out.mono ?_; rintro e w' ⟨rfl, rfl⟩)
   | (go_at_call 179; refine (HPL _).out.mono ?_; rintro e w' ⟨rfl, hk3, hb3, hs3⟩; have hP0 := HP.out.lt))
 have hb3 : Below w2.heap.size w2 w' := (below_drew1 (Below.refl _ w2)).trans hb3
 have HT := Aside0.mk (show TS w.heap.size ob (w2.heap.size + 1) w 0 w' from ⟨HP.out.below_ hb3, HR.out.below_ hb3, HO.out.below_ hb3, hk3, HBw.out.trans (hb3.mono HBw.out.size)⟩)
 obtain ⟨pb, hpb⟩ : ∃ pb, w2.heap.size + 1 = pb := ⟨_, rfl⟩
 rw [hpb] at HT ⊢
 have hobp : ob < pb := by omega
 clear hk3 hb3 hs3 hpb HP HR HO HBw HPL HOF hmp b0 b2 b3 hs2 hP0
 go_wp2
 go_loopw [6, 7, 9, 10, 11, 30] (fun s6 s7 s9 s10 s11 s30 wr => ∃ i : Int, 0 ≤ i ∧ i ≤ 1 ∧ s30 = .int .i64 i ∧ (∃ y, s6 = .int .i64 y) ∧ (∃ y, s7 = .int .i64 y) ∧ (i = 0 → s6 = .int .i64 0 ∧ s7 = .int .i64 0) ∧ Aside0 (TS w.heap.size ob pb w (4 * i.toNat) wr))
  (fun s6 s7 s9 s10 s11 s30 wr => 1 - (iOf s30).toNat)
 case atStart => exact ⟨0, by omega, by omega, rfl, ⟨_, rfl⟩, ⟨_, rfl⟩, fun _ => ⟨rfl, rfl⟩, HT⟩
 case round =>
  obtain ⟨i, hi0, hi, rfl, ⟨y6, rfl⟩, ⟨y7, rfl⟩, h67, HT1⟩ := hrel
  rcases (show i = 0 ∨ i = 1 by omega) with rfl | rfl
  · obtain ⟨h6, h7⟩ := h67 rfl
    cases h6
    cases h7
    clear h67
    obtain ⟨wo, hwo⟩ : ∃ wo, wo = wr := ⟨_, rfl⟩
    subst hwo
    have c0 := HT1.out.q.cell 0 (v := .int .i64 2) rfl
    have c1 := HT1.out.q.cell 1 (v := .int .i64 2) rfl
    have c2 := HT1.out.q.cell 2 (v := .int .i64 1) rfl
    have c3 := HT1.out.q.cell 3 (v := .int .i64 1) rfl
    have hx := Blk.new wo #[.int .i64 2, .int .i64 2, .int .i64 1, .int .i64 1] 154
    have d0 := hx.cell 0 (v := .int .i64 2) rfl
    have d1 := hx.cell 1 (v := .int .i64 2) rfl
    have HT2 : Aside0 (TS w.heap.size ob pb w 0 (wo.alloc (.cells #[.int .i64 2, .int .i64 2, .int .i64 1, .int .i64 1] 154))) := ⟨HT1.out.bel ((Below.refl _ _).alloc (Nat.le_refl _) _)⟩
    have HX := Aside0.mk hx
    have hbx : ob < wo.heap.size := HT1.out.o.lt
    obtain ⟨xb, hxb⟩ : ∃ xb, wo.heap.size = xb := ⟨_, rfl⟩
    rw [hxb] at hx HX hbx
    go_wp2
    clear c0 c1 c2 c3 d0 d1 hx hxb
    go_loopw [10, 11, 36] (fun s10 s11 s36 wr => ∃ y : Nat, y ≤ 2 ∧ s36 = .int .i64 y ∧ Aside0 (TS w.heap.size ob pb w (2 * y) wr) ∧ Aside0 (Blk wr xb #[.int .i64 2, .int .i64 2, .int .i64 1, .int .i64 1] 154))
     (fun s10 s11 s36 wr => 2 - (iOf s36).toNat)
    case atStart => exact ⟨0, by omega, rfl, HT2, HX⟩
    case round =>
     obtain ⟨y, hy, rfl, HT3, HX3⟩ := hrel
     have d0 := HX3.out.cell 0 (v := .int .i64 2) rfl
     have d1 := HX3.out.cell 1 (v := .int .i64 2) rfl
     rcases (show y < 2 ∨ y = 2 by omega) with hy2 | rfl
     · have hyz : (y : Int) < 2 := by omega
       go_wp2
       go_loopw [11, 41] (fun s11 s41 wr => ∃ x : Nat, x ≤ 2 ∧ s41 = .int .i64 x ∧ Aside0 (TS w.heap.size ob pb w (2 * y + x) wr) ∧ Aside0 (Blk wr xb #[.int .i64 2, .int .i64 2, .int .i64 1, .int .i64 1] 154))
        (fun s11 s41 wr => 2 - (iOf s41).toNat)
       case atStart => exact ⟨0, by omega, rfl, HT3, HX3⟩
       case round =>
        obtain ⟨x, hx, rfl, HT4, HX4⟩ := hrel
        rcases (show x < 2 ∨ x = 2 by omega) with hx2 | rfl
        · have hxz : (x : Int) < 2 := by omega
          have HS6 : ∀ W', Below wr.heap.size wr W' → W'.cell? ⟨xb, 0, none⟩ = some (.int .i64 2) ∧ W'.cell? ⟨xb, 1, none⟩ = some (.int .i64 2) ∧ W'.cell? ⟨xb, 2, none⟩ = some (.int .i64 1) ∧ W'.cell? ⟨xb, 3, none⟩ = some (.int .i64 1) ∧ W'.cell? ⟨w.heap.size, 1, none⟩ = some (.int .i64 0) ∧ W'.cell? ⟨w.heap.size, 4, none⟩ = some (.string ⟨#[97, 98, 99, 100]⟩) := by
           intro W' hb
           have hx := HX4.out.below_ hb
           have hp := (HT4.out.bel hb).p
           exact ⟨hx.cell 0 rfl, hx.cell 1 rfl, hx.cell 2 rfl, hx.cell 3 rfl, hp.cell 1 rfl, hp.cell 4 rfl⟩
          have HS7 : ∀ W' vv, Below wr.heap.size wr W' → ∀ o, (W'.setCell ⟨ob, o, none⟩ vv).cell? ⟨xb, 0, none⟩ = some (.int .i64 2) ∧ (W'.setCell ⟨ob, o, none⟩ vv).cell? ⟨xb, 1, none⟩ = some (.int .i64 2) ∧ (W'.setCell ⟨ob, o, none⟩ vv).cell? ⟨xb, 2, none⟩ = some (.int .i64 1) ∧ (W'.setCell ⟨ob, o, none⟩ vv).cell? ⟨xb, 3, none⟩ = some (.int .i64 1) ∧ (W'.setCell ⟨ob, o, none⟩ vv).cell? ⟨w.heap.size, 1, none⟩ = some (.int .i64 0) ∧ (W'.setCell ⟨ob, o, none⟩ vv).cell? ⟨w.heap.size, 4, none⟩ = some (.string ⟨#[97, 98, 99, 100]⟩) := by
           intro W' vv hb o
           have hn0 : w.heap.size ≠ ob := by omega
           have hnx : xb ≠ ob := by omega
           have hx := (HX4.out.below_ hb).other (a := ⟨ob, o, none⟩) vv hnx
           have hp := ((HT4.out.bel hb).p).other (a := ⟨ob, o, none⟩) vv hn0
           exact ⟨hx.cell 0 rfl, hx.cell 1 rfl, hx.cell 2 rfl, hx.cell 3 rfl, hp.cell 1 rfl, hp.cell 4 rfl⟩
          rcases (show x = 0 ∨ x = 1 by omega) with ex | ex <;> rcases (show y = 0 ∨ y = 1 by omega) with ey | ey
          · have HA1 : ∀ W', Below wr.heap.size wr W' → Aside0 (Calls Try.prog 133 #[.agg #[.int .i64 2, .int .i64 2, .int .i64 1, .int .i64 1], .int .i64 1, .int .i64 (x : Int), .int .i64 (y : Int)] W' fun e w' => e = .returned (.int .i64 0) ∧ Below wr.heap.size wr w') := by
             subst ex
             subst ey
             exact fun W' hb => ⟨(video_plane_at.calls 2 2 1 1 1 0 0 0 W' (by kernel_rfl)).mono (fun e w' (h : _ ∧ _) => And.intro h.1 (hb.trans (h.2.mono hb.size)))⟩
            have HA0 : ∀ W', Below wr.heap.size wr W' → Aside0 (Calls Try.prog 133 #[.agg #[.int .i64 2, .int .i64 2, .int .i64 1, .int .i64 1], .int .i64 0, .int .i64 (x : Int), .int .i64 (y : Int)] W' fun e w' => e = .returned (.int .i64 0) ∧ Below wr.heap.size wr w') := by
             subst ex
             subst ey
             exact fun W' hb => ⟨(video_plane_at.calls 2 2 1 1 0 0 0 0 W' (by kernel_rfl)).mono (fun e w' (h : _ ∧ _) => And.intro h.1 (hb.trans (h.2.mono hb.size)))⟩
            have HT4 : Aside0 (TS w.heap.size ob pb w 0 wr) := by
             subst ex
             subst ey
             exact ⟨HT4.out⟩
            have hx0 : Aside0 (x = 0) := ⟨ex⟩
            have hy0 : Aside0 (y = 0) := ⟨ey⟩
            clear ex ey
            have hwA : IntKind.i64.wrap 0 = 0 := by kernel_rfl
            have hwB : IntKind.i64.wrap 0 = 0 := by kernel_rfl
            have HCP : ∀ W', Below wr.heap.size wr W' → (Builtin.copy_ #[103, 9] 3 #[.slice (some ⟨ob, 0, none⟩) 16 16, .string (((ByteArray.mk #[97, 98, 99, 100]).extract 0 4).extract 0 1)]).run Try.prog W' = .ok (.int .i64 1) (W'.setCell ⟨ob, 0, none⟩ (.int .u8 97)) := by
             intro W' hb
             have ho := (HT4.out.bel hb).o
             have e : ((ByteArray.mk #[97, 98, 99, 100]).extract 0 4).extract 0 1 = ByteArray.mk #[97] := by kernel_rfl
             rw [e]
             have hc := ho.cell 0 (v := .int .u8 0) rfl
             have hj0 : ∀ j, j < (ByteArray.mk #[97]).size → j = 0 := fun j hj => Nat.lt_one_iff.mp hj
             refine run_copy_string W' 103 9 3 5 ob 0 16 16 (ByteArray.mk #[97]) Try.underlying103 size5 (by decide) ?_ (fun j hj => ho.frozen _)
             intro j hj
             obtain rfl := hj0 j hj
             show (W'.cell? ⟨ob, 0, none⟩).isSome = true
             rw [hc]
             rfl
            go_wp2
            go_region_held3 (fun W' => W'.cell? ⟨xb, 0, none⟩ = some (.int .i64 2) ∧ W'.cell? ⟨xb, 1, none⟩ = some (.int .i64 2) ∧ W'.cell? ⟨xb, 2, none⟩ = some (.int .i64 1) ∧ W'.cell? ⟨xb, 3, none⟩ = some (.int .i64 1) ∧ W'.cell? ⟨w.heap.size, 1, none⟩ = some (.int .i64 0) ∧ W'.cell? ⟨w.heap.size, 4, none⟩ = some (.string ⟨#[97, 98, 99, 100]⟩))
             (first | exact HS6 _ (below_drew1 (Below.refl _ _)) | exact HS6 _ h2b | exact HS6 _ h1b | exact HS7 _ _ h2b _ | exact HS7 _ _ h1b _)
             (first
              | (go_at_call 133; first
               | (with_reducible refine (HA1 _ ?hb).out.mono ?_; (case hb => first | exact h2b | exact below_drew1 (Below.refl _ _)); rintro e w' ⟨rfl, h1b⟩; have hcp := HCP w' h1b)
               | (with_reducible refine (HA0 _ ?hb).out.mono ?_; (case hb => first | exact h1b | exact below_drew1 (Below.refl _ _)); rintro e w' ⟨rfl, h2b⟩; have hcp := HCP w' h2b)))
            all_goals
             have hT5 : TS w.heap.size ob pb w 1 (w'.setCell ⟨ob, 0, none⟩ (.int .u8 97)) := (HT4.out.bel h2b).put hno hobp (by omega) (by rfl)
             have hX5 : Blk (w'.setCell ⟨ob, 0, none⟩ (.int .u8 97)) xb #[.int .i64 2, .int .i64 2, .int .i64 1, .int .i64 1] 154 := (HX4.out.below_ h2b).other (a := ⟨ob, 0, none⟩) _ (by show xb ≠ ob; omega)
             go_wp2
             go_roundw
             case rel => exact ⟨x + 1, by omega, by go_num, by (obtain ⟨h⟩ := hx0; obtain ⟨h'⟩ := hy0; subst h; subst h'; exact ⟨hT5⟩), ⟨hX5⟩⟩
             case measure => simp [iOf]; omega
          · have HA1 : ∀ W', Below wr.heap.size wr W' → Aside0 (Calls Try.prog 133 #[.agg #[.int .i64 2, .int .i64 2, .int .i64 1, .int .i64 1], .int .i64 1, .int .i64 (x : Int), .int .i64 (y : Int)] W' fun e w' => e = .returned (.int .i64 4) ∧ Below wr.heap.size wr w') := by
             subst ex
             subst ey
             exact fun W' hb => ⟨(video_plane_at.calls 2 2 1 1 1 0 1 4 W' (by kernel_rfl)).mono (fun e w' (h : _ ∧ _) => And.intro h.1 (hb.trans (h.2.mono hb.size)))⟩
            have HA0 : ∀ W', Below wr.heap.size wr W' → Aside0 (Calls Try.prog 133 #[.agg #[.int .i64 2, .int .i64 2, .int .i64 1, .int .i64 1], .int .i64 0, .int .i64 (x : Int), .int .i64 (y : Int)] W' fun e w' => e = .returned (.int .i64 2) ∧ Below wr.heap.size wr w') := by
             subst ex
             subst ey
             exact fun W' hb => ⟨(video_plane_at.calls 2 2 1 1 0 0 1 2 W' (by kernel_rfl)).mono (fun e w' (h : _ ∧ _) => And.intro h.1 (hb.trans (h.2.mono hb.size)))⟩
            have HT4 : Aside0 (TS w.heap.size ob pb w 2 wr) := by
             subst ex
             subst ey
             exact ⟨HT4.out⟩
            have hx0 : Aside0 (x = 0) := ⟨ex⟩
            have hy0 : Aside0 (y = 1) := ⟨ey⟩
            clear ex ey
            have hwA : IntKind.i64.wrap 4 = 4 := by kernel_rfl
            have hwB : IntKind.i64.wrap 2 = 2 := by kernel_rfl
            have HCP : ∀ W', Below wr.heap.size wr W' → (Builtin.copy_ #[103, 9] 3 #[.slice (some ⟨ob, 4, none⟩) 12 12, .string (((ByteArray.mk #[97, 98, 99, 100]).extract 2 4).extract 0 1)]).run Try.prog W' = .ok (.int .i64 1) (W'.setCell ⟨ob, 4, none⟩ (.int .u8 99)) := by
             intro W' hb
             have ho := (HT4.out.bel hb).o
             have e : ((ByteArray.mk #[97, 98, 99, 100]).extract 2 4).extract 0 1 = ByteArray.mk #[99] := by kernel_rfl
             rw [e]
             have hc := ho.cell 4 (v := .int .u8 0) rfl
             have hj0 : ∀ j, j < (ByteArray.mk #[99]).size → j = 0 := fun j hj => Nat.lt_one_iff.mp hj
             refine run_copy_string W' 103 9 3 5 ob 4 12 12 (ByteArray.mk #[99]) Try.underlying103 size5 (by decide) ?_ (fun j hj => ho.frozen _)
             intro j hj
             obtain rfl := hj0 j hj
             show (W'.cell? ⟨ob, 4, none⟩).isSome = true
             rw [hc]
             rfl
            go_wp2
            go_region_held3 (fun W' => W'.cell? ⟨xb, 0, none⟩ = some (.int .i64 2) ∧ W'.cell? ⟨xb, 1, none⟩ = some (.int .i64 2) ∧ W'.cell? ⟨xb, 2, none⟩ = some (.int .i64 1) ∧ W'.cell? ⟨xb, 3, none⟩ = some (.int .i64 1) ∧ W'.cell? ⟨w.heap.size, 1, none⟩ = some (.int .i64 0) ∧ W'.cell? ⟨w.heap.size, 4, none⟩ = some (.string ⟨#[97, 98, 99, 100]⟩))
             (first | exact HS6 _ (below_drew1 (Below.refl _ _)) | exact HS6 _ h2b | exact HS6 _ h1b | exact HS7 _ _ h2b _ | exact HS7 _ _ h1b _)
             (first
              | (go_at_call 133; first
               | (with_reducible refine (HA1 _ ?hb).out.mono ?_; (case hb => first | exact h2b | exact below_drew1 (Below.refl _ _)); rintro e w' ⟨rfl, h1b⟩; have hcp := HCP w' h1b)
               | (with_reducible refine (HA0 _ ?hb).out.mono ?_; (case hb => first | exact h1b | exact below_drew1 (Below.refl _ _)); rintro e w' ⟨rfl, h2b⟩; have hcp := HCP w' h2b)))
            all_goals
             have hT5 : TS w.heap.size ob pb w 3 (w'.setCell ⟨ob, 4, none⟩ (.int .u8 99)) := (HT4.out.bel h2b).put hno hobp (by omega) (by rfl)
             have hX5 : Blk (w'.setCell ⟨ob, 4, none⟩ (.int .u8 99)) xb #[.int .i64 2, .int .i64 2, .int .i64 1, .int .i64 1] 154 := (HX4.out.below_ h2b).other (a := ⟨ob, 4, none⟩) _ (by show xb ≠ ob; omega)
             go_wp2
             go_roundw
             case rel => exact ⟨x + 1, by omega, by go_num, by (obtain ⟨h⟩ := hx0; obtain ⟨h'⟩ := hy0; subst h; subst h'; exact ⟨hT5⟩), ⟨hX5⟩⟩
             case measure => simp [iOf]; omega
          · have HA1 : ∀ W', Below wr.heap.size wr W' → Aside0 (Calls Try.prog 133 #[.agg #[.int .i64 2, .int .i64 2, .int .i64 1, .int .i64 1], .int .i64 1, .int .i64 (x : Int), .int .i64 (y : Int)] W' fun e w' => e = .returned (.int .i64 1) ∧ Below wr.heap.size wr w') := by
             subst ex
             subst ey
             exact fun W' hb => ⟨(video_plane_at.calls 2 2 1 1 1 1 0 1 W' (by kernel_rfl)).mono (fun e w' (h : _ ∧ _) => And.intro h.1 (hb.trans (h.2.mono hb.size)))⟩
            have HA0 : ∀ W', Below wr.heap.size wr W' → Aside0 (Calls Try.prog 133 #[.agg #[.int .i64 2, .int .i64 2, .int .i64 1, .int .i64 1], .int .i64 0, .int .i64 (x : Int), .int .i64 (y : Int)] W' fun e w' => e = .returned (.int .i64 1) ∧ Below wr.heap.size wr w') := by
             subst ex
             subst ey
             exact fun W' hb => ⟨(video_plane_at.calls 2 2 1 1 0 1 0 1 W' (by kernel_rfl)).mono (fun e w' (h : _ ∧ _) => And.intro h.1 (hb.trans (h.2.mono hb.size)))⟩
            have HT4 : Aside0 (TS w.heap.size ob pb w 1 wr) := by
             subst ex
             subst ey
             exact ⟨HT4.out⟩
            have hx0 : Aside0 (x = 1) := ⟨ex⟩
            have hy0 : Aside0 (y = 0) := ⟨ey⟩
            clear ex ey
            have hwA : IntKind.i64.wrap 1 = 1 := by kernel_rfl
            have hwB : IntKind.i64.wrap 1 = 1 := by kernel_rfl
            have HCP : ∀ W', Below wr.heap.size wr W' → (Builtin.copy_ #[103, 9] 3 #[.slice (some ⟨ob, 1, none⟩) 15 15, .string (((ByteArray.mk #[97, 98, 99, 100]).extract 1 4).extract 0 1)]).run Try.prog W' = .ok (.int .i64 1) (W'.setCell ⟨ob, 1, none⟩ (.int .u8 98)) := by
             intro W' hb
             have ho := (HT4.out.bel hb).o
             have e : ((ByteArray.mk #[97, 98, 99, 100]).extract 1 4).extract 0 1 = ByteArray.mk #[98] := by kernel_rfl
             rw [e]
             have hc := ho.cell 1 (v := .int .u8 0) rfl
             have hj0 : ∀ j, j < (ByteArray.mk #[98]).size → j = 0 := fun j hj => Nat.lt_one_iff.mp hj
             refine run_copy_string W' 103 9 3 5 ob 1 15 15 (ByteArray.mk #[98]) Try.underlying103 size5 (by decide) ?_ (fun j hj => ho.frozen _)
             intro j hj
             obtain rfl := hj0 j hj
             show (W'.cell? ⟨ob, 1, none⟩).isSome = true
             rw [hc]
             rfl
            go_wp2
            go_region_held3 (fun W' => W'.cell? ⟨xb, 0, none⟩ = some (.int .i64 2) ∧ W'.cell? ⟨xb, 1, none⟩ = some (.int .i64 2) ∧ W'.cell? ⟨xb, 2, none⟩ = some (.int .i64 1) ∧ W'.cell? ⟨xb, 3, none⟩ = some (.int .i64 1) ∧ W'.cell? ⟨w.heap.size, 1, none⟩ = some (.int .i64 0) ∧ W'.cell? ⟨w.heap.size, 4, none⟩ = some (.string ⟨#[97, 98, 99, 100]⟩))
             (first | exact HS6 _ (below_drew1 (Below.refl _ _)) | exact HS6 _ h2b | exact HS6 _ h1b | exact HS7 _ _ h2b _ | exact HS7 _ _ h1b _)
             (first
              | (go_at_call 133; first
               | (with_reducible refine (HA1 _ ?hb).out.mono ?_; (case hb => first | exact h2b | exact below_drew1 (Below.refl _ _)); rintro e w' ⟨rfl, h1b⟩; have hcp := HCP w' h1b)
               | (with_reducible refine (HA0 _ ?hb).out.mono ?_; (case hb => first | exact h1b | exact below_drew1 (Below.refl _ _)); rintro e w' ⟨rfl, h2b⟩; have hcp := HCP w' h2b)))
            all_goals
             have hT5 : TS w.heap.size ob pb w 2 (w'.setCell ⟨ob, 1, none⟩ (.int .u8 98)) := (HT4.out.bel h2b).put hno hobp (by omega) (by rfl)
             have hX5 : Blk (w'.setCell ⟨ob, 1, none⟩ (.int .u8 98)) xb #[.int .i64 2, .int .i64 2, .int .i64 1, .int .i64 1] 154 := (HX4.out.below_ h2b).other (a := ⟨ob, 1, none⟩) _ (by show xb ≠ ob; omega)
             go_wp2
             go_roundw
             case rel => exact ⟨x + 1, by omega, by go_num, by (obtain ⟨h⟩ := hx0; obtain ⟨h'⟩ := hy0; subst h; subst h'; exact ⟨hT5⟩), ⟨hX5⟩⟩
             case measure => simp [iOf]; omega
          · have HA1 : ∀ W', Below wr.heap.size wr W' → Aside0 (Calls Try.prog 133 #[.agg #[.int .i64 2, .int .i64 2, .int .i64 1, .int .i64 1], .int .i64 1, .int .i64 (x : Int), .int .i64 (y : Int)] W' fun e w' => e = .returned (.int .i64 5) ∧ Below wr.heap.size wr w') := by
             subst ex
             subst ey
             exact fun W' hb => ⟨(video_plane_at.calls 2 2 1 1 1 1 1 5 W' (by kernel_rfl)).mono (fun e w' (h : _ ∧ _) => And.intro h.1 (hb.trans (h.2.mono hb.size)))⟩
            have HA0 : ∀ W', Below wr.heap.size wr W' → Aside0 (Calls Try.prog 133 #[.agg #[.int .i64 2, .int .i64 2, .int .i64 1, .int .i64 1], .int .i64 0, .int .i64 (x : Int), .int .i64 (y : Int)] W' fun e w' => e = .returned (.int .i64 3) ∧ Below wr.heap.size wr w') := by
             subst ex
             subst ey
             exact fun W' hb => ⟨(video_plane_at.calls 2 2 1 1 0 1 1 3 W' (by kernel_rfl)).mono (fun e w' (h : _ ∧ _) => And.intro h.1 (hb.trans (h.2.mono hb.size)))⟩
            have HT4 : Aside0 (TS w.heap.size ob pb w 3 wr) := by
             subst ex
             subst ey
             exact ⟨HT4.out⟩
            have hx0 : Aside0 (x = 1) := ⟨ex⟩
            have hy0 : Aside0 (y = 1) := ⟨ey⟩
            clear ex ey
            have hwA : IntKind.i64.wrap 5 = 5 := by kernel_rfl
            have hwB : IntKind.i64.wrap 3 = 3 := by kernel_rfl
            have HCP : ∀ W', Below wr.heap.size wr W' → (Builtin.copy_ #[103, 9] 3 #[.slice (some ⟨ob, 5, none⟩) 11 11, .string (((ByteArray.mk #[97, 98, 99, 100]).extract 3 4).extract 0 1)]).run Try.prog W' = .ok (.int .i64 1) (W'.setCell ⟨ob, 5, none⟩ (.int .u8 100)) := by
             intro W' hb
             have ho := (HT4.out.bel hb).o
             have e : ((ByteArray.mk #[97, 98, 99, 100]).extract 3 4).extract 0 1 = ByteArray.mk #[100] := by kernel_rfl
             rw [e]
             have hc := ho.cell 5 (v := .int .u8 0) rfl
             have hj0 : ∀ j, j < (ByteArray.mk #[100]).size → j = 0 := fun j hj => Nat.lt_one_iff.mp hj
             refine run_copy_string W' 103 9 3 5 ob 5 11 11 (ByteArray.mk #[100]) Try.underlying103 size5 (by decide) ?_ (fun j hj => ho.frozen _)
             intro j hj
             obtain rfl := hj0 j hj
             show (W'.cell? ⟨ob, 5, none⟩).isSome = true
             rw [hc]
             rfl
            go_wp2
            go_region_held3 (fun W' => W'.cell? ⟨xb, 0, none⟩ = some (.int .i64 2) ∧ W'.cell? ⟨xb, 1, none⟩ = some (.int .i64 2) ∧ W'.cell? ⟨xb, 2, none⟩ = some (.int .i64 1) ∧ W'.cell? ⟨xb, 3, none⟩ = some (.int .i64 1) ∧ W'.cell? ⟨w.heap.size, 1, none⟩ = some (.int .i64 0) ∧ W'.cell? ⟨w.heap.size, 4, none⟩ = some (.string ⟨#[97, 98, 99, 100]⟩))
             (first | exact HS6 _ (below_drew1 (Below.refl _ _)) | exact HS6 _ h2b | exact HS6 _ h1b | exact HS7 _ _ h2b _ | exact HS7 _ _ h1b _)
             (first
              | (go_at_call 133; first
               | (with_reducible refine (HA1 _ ?hb).out.mono ?_; (case hb => first | exact h2b | exact below_drew1 (Below.refl _ _)); rintro e w' ⟨rfl, h1b⟩; have hcp := HCP w' h1b)
               | (with_reducible refine (HA0 _ ?hb).out.mono ?_; (case hb => first | exact h1b | exact below_drew1 (Below.refl _ _)); rintro e w' ⟨rfl, h2b⟩; have hcp := HCP w' h2b)))
            all_goals
             have hT5 : TS w.heap.size ob pb w 4 (w'.setCell ⟨ob, 5, none⟩ (.int .u8 100)) := (HT4.out.bel h2b).put hno hobp (by omega) (by rfl)
             have hX5 : Blk (w'.setCell ⟨ob, 5, none⟩ (.int .u8 100)) xb #[.int .i64 2, .int .i64 2, .int .i64 1, .int .i64 1] 154 := (HX4.out.below_ h2b).other (a := ⟨ob, 5, none⟩) _ (by show xb ≠ ob; omega)
             go_wp2
             go_roundw
             case rel => exact ⟨x + 1, by omega, by go_num, by (obtain ⟨h⟩ := hx0; obtain ⟨h'⟩ := hy0; subst h; subst h'; exact ⟨hT5⟩), ⟨hX5⟩⟩
             case measure => simp [iOf]; omega
        · go_wp2
          go_roundw
          case rel => exact ⟨y + 1, by omega, by go_num, HT4, HX4⟩
          case measure => simp [iOf]; omega
     · have HS5 : ∀ W', Below wr.heap.size wr W' → W'.cell? ⟨xb, 0, none⟩ = some (.int .i64 2) ∧ W'.cell? ⟨xb, 1, none⟩ = some (.int .i64 2) ∧ W'.cell? ⟨xb, 2, none⟩ = some (.int .i64 1) ∧ W'.cell? ⟨xb, 3, none⟩ = some (.int .i64 1) ∧ W'.cell? ⟨w.heap.size, 1, none⟩ = some (.int .i64 0) := by
        intro W' hb
        have hx := HX3.out.below_ hb
        have hp := (HT3.out.bel hb).p
        exact ⟨hx.cell 0 rfl, hx.cell 1 rfl, hx.cell 2 rfl, hx.cell 3 rfl, hp.cell 1 rfl⟩
       have HZ0 := fun (W' : World) (hb : Below wr.heap.size wr W') => Aside0.mk ((video_plane_size.calls 2 2 1 1 0 4 W' (by kernel_rfl)).mono (fun e w' (h : _ ∧ _) => And.intro h.1 (hb.trans (h.2.mono hb.size))))
       have HZ1 := fun (W' : World) (hb : Below wr.heap.size wr W') => Aside0.mk ((video_plane_size.calls 2 2 1 1 1 16 W' (by kernel_rfl)).mono (fun e w' (h : _ ∧ _) => And.intro h.1 (hb.trans (h.2.mono hb.size))))
       go_wp2
       go_region_held3 (fun W' => W'.cell? ⟨xb, 0, none⟩ = some (.int .i64 2) ∧ W'.cell? ⟨xb, 1, none⟩ = some (.int .i64 2) ∧ W'.cell? ⟨xb, 2, none⟩ = some (.int .i64 1) ∧ W'.cell? ⟨xb, 3, none⟩ = some (.int .i64 1) ∧ W'.cell? ⟨w.heap.size, 1, none⟩ = some (.int .i64 0))
        (first | exact HS5 _ (below_drew1 (Below.refl _ _)) | exact HS5 _ h2b | exact HS5 _ h1b)
        (first
         | (go_at_call 132; first
          | (with_reducible refine (HZ0 _ ?hb).out.mono ?_; (case hb => first | exact h2b | exact below_drew1 (Below.refl _ _)); rintro e w' ⟨rfl, h1b⟩)
          | (with_reducible refine (HZ1 _ ?hb).out.mono ?_; (case hb => first | exact h1b | exact below_drew1 (Below.refl _ _)); rintro e w' ⟨rfl, h2b⟩)))
       all_goals
        have hT5 : TS w.heap.size ob pb w 4 w' := HT3.out.bel h2b
        go_wp2
        go_roundw
        case rel => exact ⟨1, by omega, by omega, by go_num, ⟨_, rfl⟩, ⟨_, rfl⟩, fun h => absurd h (by decide), ⟨hT5⟩⟩
        case measure => simp [iOf]
  · have hp1 := HT1.out.p.cell 1 (v := .int .i64 0) rfl
    go_wp2
    have HR1 := Aside0.mk HT1.out.r
    have HP1 := Aside0.mk HT1.out.p
    have HO1 := HT1.out.o
    have HB1 := Aside0.mk HT1.out.b
    have HCV : ∀ W, Blk W ob (outK 4) 5 → (convert 103 9 (.slice (some ⟨ob, 0, none⟩) 16 16)).run Try.prog W = .ok (.string ⟨#[97, 98, 0, 0, 99, 100, 0, 0, 0, 0, 0, 0, 0, 0, 0, 0]⟩) W := by
     intro W hW
     refine run_convert_bytes_back W 103 9 5 ⟨ob, 0, none⟩ 16 [97, 98, 0, 0, 99, 100, 0, 0, 0, 0, 0, 0, 0, 0, 0, 0] Try.underlying103 Try.underlying5 Try.underlying9 (fun j hj => ?_)
     have hj' : j < 16 := hj
     have hz : (⟨ob, 0, none⟩ : Addr).add j = ⟨ob, j, none⟩ := by unfold Addr.add; split <;> simp_all
     rw [hz]
     refine hW.cell j ?_
     rcases j with _ | _ | _ | _ | _ | _ | _ | _ | _ | _ | _ | _ | _ | _ | _ | _ | j <;> first | rfl | omega
    have hcv1 : ∀ n, (convert 103 9 (.slice (some ⟨ob, 0, none⟩) 16 16)).run Try.prog (wr.drewN n) = .ok (.string ⟨#[97, 98, 0, 0, 99, 100, 0, 0, 0, 0, 0, 0, 0, 0, 0, 0]⟩) (wr.drewN n) := fun n => HCV _ (HO1.drewN n)
    have hcv0 := HCV _ HO1.drew
    have hcv2 := HCV wr.drew HO1.drew
    have hcv3 := HCV ((wr.setCell ⟨w.heap.size, 1, none⟩ (.int .i64 1)).drew) ((HO1.other (a := ⟨w.heap.size, 1, none⟩) _ (by show ob ≠ w.heap.size; omega)).drew)
    have HCV' := Aside0.mk HCV
    clear HCV
    have d1 := HP1.out.cell 1 (v := .int .i64 0) rfl
    have e1 := HP1.out.frozen 1
    have d1' := HP1.out.drew.cell 1 (v := .int .i64 0) rfl
    have e1' := HP1.out.drew.frozen 1
    have d4 := HP1.out.cell 4 (v := .string ⟨#[97, 98, 99, 100]⟩) rfl
    have e4 := HP1.out.frozen 4
    clear HO1
    go_region
    have HPf : Blk ((wr.setCell ⟨w.heap.size, 1, none⟩ (.int .i64 1)).setCell ⟨w.heap.size, 4, none⟩ (.string ⟨#[97, 98, 0, 0, 99, 100, 0, 0, 0, 0, 0, 0, 0, 0, 0, 0]⟩)).drew w.heap.size #[.int .i64 1, .int .i64 1, .int .i64 2, .int .i64 2, .string ⟨#[97, 98, 0, 0, 99, 100, 0, 0, 0, 0, 0, 0, 0, 0, 0, 0]⟩] 49 := ((HP1.out.set 1 (.int .i64 1)).set 4 (.string ⟨#[97, 98, 0, 0, 99, 100, 0, 0, 0, 0, 0, 0, 0, 0, 0, 0]⟩)).drew
    have HRf : Blk ((wr.setCell ⟨w.heap.size, 1, none⟩ (.int .i64 1)).setCell ⟨w.heap.size, 4, none⟩ (.string ⟨#[97, 98, 0, 0, 99, 100, 0, 0, 0, 0, 0, 0, 0, 0, 0, 0]⟩)).drew (w.heap.size + 1) #[.int .i64 0, .int .i64 0, .int .i64 0, .int .i64 0, .string ⟨#[]⟩] 49 := ((HR1.out.other (a := ⟨w.heap.size, 1, none⟩) _ (by show w.heap.size + 1 ≠ w.heap.size; omega)).other (a := ⟨w.heap.size, 4, none⟩) _ (by show w.heap.size + 1 ≠ w.heap.size; omega)).drew
    have HBf := Aside0.mk (show Below w.heap.size w ((wr.setCell ⟨w.heap.size, 1, none⟩ (.int .i64 1)).setCell ⟨w.heap.size, 4, none⟩ (.string ⟨#[97, 98, 0, 0, 99, 100, 0, 0, 0, 0, 0, 0, 0, 0, 0, 0]⟩)).drew from below_drew1 ((HB1.out.setCell (p := ⟨w.heap.size, 1, none⟩) (Nat.le_refl _) _).setCell (p := ⟨w.heap.size, 4, none⟩) (Nat.le_refl _) _))
    generalize ((wr.setCell ⟨w.heap.size, 1, none⟩ (.int .i64 1)).setCell ⟨w.heap.size, 4, none⟩ (.string ⟨#[97, 98, 0, 0, 99, 100, 0, 0, 0, 0, 0, 0, 0, 0, 0, 0]⟩)).drew = w3 at HPf HRf HBf ⊢
    clear d1 e1 d1' e1' d4 e4 hcv0 hcv1 hcv2 hcv3 HCV' HP1 HR1 HB1
    have p0 := HPf.cell 0 (v := .int .i64 1) rfl
    have r0 := HRf.cell 0 (v := .int .i64 0) rfl
    have q0 := HRf.frozen 0
    have p1 := HPf.cell 1 (v := .int .i64 1) rfl
    have r1 := HRf.cell 1 (v := .int .i64 0) rfl
    have q1 := HRf.frozen 1
    have p2 := HPf.cell 2 (v := .int .i64 2) rfl
    have r2 := HRf.cell 2 (v := .int .i64 0) rfl
    have q2 := HRf.frozen 2
    have p3 := HPf.cell 3 (v := .int .i64 2) rfl
    have r3 := HRf.cell 3 (v := .int .i64 0) rfl
    have q3 := HRf.frozen 3
    have p4 := HPf.cell 4 (v := .string ⟨#[97, 98, 0, 0, 99, 100, 0, 0, 0, 0, 0, 0, 0, 0, 0, 0]⟩) rfl
    have r4 := HRf.cell 4 (v := .string ⟨#[]⟩) rfl
    have q4 := HRf.frozen 4
    have s0 := (HRf.set 0 (.int .i64 1)).cell 0 (v := .int .i64 1) rfl
    have s1 := ((HRf.set 0 (.int .i64 1)).set 1 (.int .i64 1)).cell 1 (v := .int .i64 1) rfl
    have s2 := (((HRf.set 0 (.int .i64 1)).set 1 (.int .i64 1)).set 2 (.int .i64 2)).cell 2 (v := .int .i64 2) rfl
    have s3 := ((((HRf.set 0 (.int .i64 1)).set 1 (.int .i64 1)).set 2 (.int .i64 2)).set 3 (.int .i64 2)).cell 3 (v := .int .i64 2) rfl
    have s4 := (((((HRf.set 0 (.int .i64 1)).set 1 (.int .i64 1)).set 2 (.int .i64 2)).set 3 (.int .i64 2)).set 4 (.string ⟨#[97, 98, 0, 0, 99, 100, 0, 0, 0, 0, 0, 0, 0, 0, 0, 0]⟩)).cell 4 (v := .string ⟨#[97, 98, 0, 0, 99, 100, 0, 0, 0, 0, 0, 0, 0, 0, 0, 0]⟩) rfl
    have HBe := Aside0.mk (((((HBf.out.setCell (p := ⟨w.heap.size + 1, 0, none⟩) (Nat.le_succ _) (.int .i64 1)).setCell (p := ⟨w.heap.size + 1, 1, none⟩) (Nat.le_succ _) (.int .i64 1)).setCell (p := ⟨w.heap.size + 1, 2, none⟩) (Nat.le_succ _) (.int .i64 2)).setCell (p := ⟨w.heap.size + 1, 3, none⟩) (Nat.le_succ _) (.int .i64 2)).setCell (p := ⟨w.heap.size + 1, 4, none⟩) (Nat.le_succ _) (.string ⟨#[97, 98, 0, 0, 99, 100, 0, 0, 0, 0, 0, 0, 0, 0, 0, 0]⟩))
    clear HPf HRf HBf
    go_wp2
    refine bodyPost_ret (v := .agg #[.int .i64 1, .int .i64 1, .int .i64 2, .int .i64 2, .string ⟨#[97, 98, 0, 0, 99, 100, 0, 0, 0, 0, 0, 0, 0, 0, 0, 0]⟩]) (by simp [results, Try.results87, go_sem, s0, s1, s2, s3, s4]) rfl ⟨rfl, HBe.out⟩
end Go.Proofs.Ythbajahklnpkcaa.PA

namespace Go.Proofs.Ythbajahklnpkcaa.PA
open Go.RowKit Go.Proofs.YthbajahklnpkcaaW.PrintWords Go.Proofs.YthbajahklnpkcaaW.PrintLast Go.Proofs.YthbajahklnpkcaaW.PrintMore
attribute [local go_sem] max2_int min2_int max_two min_two max_three min_three max_four min_four
set_option linter.unusedVariables false
set_option linter.unusedSimpArgs false
def video_right.f (a0 : Int) (a1 : Int) (a2 : Int) (a3 : Int) : Option (Bool) := (video_formats.f a0).bind fun t238 => (if t238 = true then ((video_modifiers.f a1).bind fun t239 => (if t239 = true then (if a2 ≥ 1 then (if a2 ≤ 64 then (if a3 ≥ 1 then (some (decide (a3 ≤ 64))) else (some false)) else (some false)) else (some false)) else (some false))) else (some false))
set_option maxHeartbeats 8000000 in
set_option maxRecDepth 100000 in
theorem video_right.calls (a0 : Int) (a1 : Int) (a2 : Int) (a3 : Int) (r : Bool) (w : World) (h : video_right.f a0 a1 a2 a3 = some r) :
 Calls Try.prog 83 #[.int .i64 a0, .int .i64 a1, .int .i64 a2, .int .i64 a3] w fun e w' => e = .returned (.bool r) ∧ Drawn0 w w' := by
 have H : ((video_formats.f a0).bind fun t238 => (if t238 = true then ((video_modifiers.f a1).bind fun t239 => (if t239 = true then (if a2 ≥ 1 then (if a2 ≤ 64 then (if a3 ≥ 1 then (some (decide (a3 ≤ 64))) else (some false)) else (some false)) else (some false)) else (some false))) else (some false))) = some r := h
 clear h
 replace H := Option.bind_eq_some_iff.mp H
 obtain ⟨t238, A50, H⟩ := H
 replace H : (if t238 = true then ((video_modifiers.f a1).bind fun t239 => (if t239 = true then (if a2 ≥ 1 then (if a2 ≤ 64 then (if a3 ≥ 1 then (some (decide (a3 ≤ 64))) else (some false)) else (some false)) else (some false)) else (some false))) else (some false)) = some r := H
 have A5 := Aside0.mk A50
 clear A50
 by_cases c6 : t238 = true
 · subst c6
   have H1 : ((video_modifiers.f a1).bind fun t239 => (if t239 = true then (if a2 ≥ 1 then (if a2 ≤ 64 then (if a3 ≥ 1 then (some (decide (a3 ≤ 64))) else (some false)) else (some false)) else (some false)) else (some false))) = some r := by rw [if_pos rfl] at H; exact H
   clear H
   have H := H1
   clear H1
   replace H := Option.bind_eq_some_iff.mp H
   obtain ⟨t239, A70, H⟩ := H
   replace H : (if t239 = true then (if a2 ≥ 1 then (if a2 ≤ 64 then (if a3 ≥ 1 then (some (decide (a3 ≤ 64))) else (some false)) else (some false)) else (some false)) else (some false)) = some r := H
   have A7 := Aside0.mk A70
   clear A70
   by_cases c8 : t239 = true
   · subst c8
     have H1 : (if a2 ≥ 1 then (if a2 ≤ 64 then (if a3 ≥ 1 then (some (decide (a3 ≤ 64))) else (some false)) else (some false)) else (some false)) = some r := by rw [if_pos rfl] at H; exact H
     clear H
     have H := H1
     clear H1
     by_cases c9 : a2 ≥ 1
     · rw [if_pos c9] at H
       have c9b0 : decide (1 ≤ a2) = true := decide_eq_true c9
       clear c9
       by_cases c10 : a2 ≤ 64
       · rw [if_pos c10] at H
         have c10b0 : decide (a2 ≤ 64) = true := decide_eq_true c10
         clear c10
         by_cases c11 : a3 ≥ 1
         · rw [if_pos c11] at H
           have c11b0 : decide (1 ≤ a3) = true := decide_eq_true c11
           clear c11
           obtain rfl := Option.some.inj H
           go_enter Try.func83, Try.ntmps83
           go_wp2_with (first | ((with_reducible refine gate_callee (f := 115) rfl ?_); refine goesL_ (some 10) rfl rfl Try.func115 (by kernel_rfl) rfl #[.int .i64 a0] rfl (by (try simp only [List.map_toArray, List.map_cons, List.map_nil]); first | done | rfl | (simp only [List.length_drop, List.length_take]; rfl)) ?_; (with_reducible refine (video_formats.calls a0 true _ A5.out).mono ?_); rintro e w' ⟨rfl, ⟨nd, rfl⟩⟩; refine ⟨_, rfl, ?_⟩) | (go_at_call 95; (with_reducible refine (video_modifiers.calls a1 true _ A7.out).mono ?_); rintro e w' ⟨rfl, ⟨nd, rfl⟩⟩))
           go_ret
           exact ⟨by first | rfl | (simp; done) | (simp [*]; done), by repeat (first | exact Drawn0.refl _ | apply Drawn0.step)⟩
         · rw [if_neg c11] at H
           have c11b0 : decide (1 ≤ a3) = false := decide_eq_false c11
           clear c11
           obtain rfl := Option.some.inj H
           go_enter Try.func83, Try.ntmps83
           go_wp2_with (first | ((with_reducible refine gate_callee (f := 115) rfl ?_); refine goesL_ (some 10) rfl rfl Try.func115 (by kernel_rfl) rfl #[.int .i64 a0] rfl (by (try simp only [List.map_toArray, List.map_cons, List.map_nil]); first | done | rfl | (simp only [List.length_drop, List.length_take]; rfl)) ?_; (with_reducible refine (video_formats.calls a0 true _ A5.out).mono ?_); rintro e w' ⟨rfl, ⟨nd, rfl⟩⟩; refine ⟨_, rfl, ?_⟩) | (go_at_call 95; (with_reducible refine (video_modifiers.calls a1 true _ A7.out).mono ?_); rintro e w' ⟨rfl, ⟨nd, rfl⟩⟩))
           go_ret
           exact ⟨by first | rfl | (simp; done) | (simp [*]; done), by repeat (first | exact Drawn0.refl _ | apply Drawn0.step)⟩
       · rw [if_neg c10] at H
         have c10b0 : decide (a2 ≤ 64) = false := decide_eq_false c10
         clear c10
         obtain rfl := Option.some.inj H
         go_enter Try.func83, Try.ntmps83
         go_wp2_with (first | ((with_reducible refine gate_callee (f := 115) rfl ?_); refine goesL_ (some 10) rfl rfl Try.func115 (by kernel_rfl) rfl #[.int .i64 a0] rfl (by (try simp only [List.map_toArray, List.map_cons, List.map_nil]); first | done | rfl | (simp only [List.length_drop, List.length_take]; rfl)) ?_; (with_reducible refine (video_formats.calls a0 true _ A5.out).mono ?_); rintro e w' ⟨rfl, ⟨nd, rfl⟩⟩; refine ⟨_, rfl, ?_⟩) | (go_at_call 95; (with_reducible refine (video_modifiers.calls a1 true _ A7.out).mono ?_); rintro e w' ⟨rfl, ⟨nd, rfl⟩⟩))
         go_ret
         exact ⟨by first | rfl | (simp; done) | (simp [*]; done), by repeat (first | exact Drawn0.refl _ | apply Drawn0.step)⟩
     · rw [if_neg c9] at H
       have c9b0 : decide (1 ≤ a2) = false := decide_eq_false c9
       clear c9
       obtain rfl := Option.some.inj H
       go_enter Try.func83, Try.ntmps83
       go_wp2_with (first | ((with_reducible refine gate_callee (f := 115) rfl ?_); refine goesL_ (some 10) rfl rfl Try.func115 (by kernel_rfl) rfl #[.int .i64 a0] rfl (by (try simp only [List.map_toArray, List.map_cons, List.map_nil]); first | done | rfl | (simp only [List.length_drop, List.length_take]; rfl)) ?_; (with_reducible refine (video_formats.calls a0 true _ A5.out).mono ?_); rintro e w' ⟨rfl, ⟨nd, rfl⟩⟩; refine ⟨_, rfl, ?_⟩) | (go_at_call 95; (with_reducible refine (video_modifiers.calls a1 true _ A7.out).mono ?_); rintro e w' ⟨rfl, ⟨nd, rfl⟩⟩))
       go_ret
       exact ⟨by first | rfl | (simp; done) | (simp [*]; done), by repeat (first | exact Drawn0.refl _ | apply Drawn0.step)⟩
   · replace c8 := Bool.eq_false_iff.mpr c8
     subst c8
     have H1 : (some false) = some r := by rw [if_neg (show ¬ (false = true) by decide)] at H; exact H
     clear H
     have H := H1
     clear H1
     obtain rfl := Option.some.inj H
     go_enter Try.func83, Try.ntmps83
     go_wp2_with (first | ((with_reducible refine gate_callee (f := 115) rfl ?_); refine goesL_ (some 10) rfl rfl Try.func115 (by kernel_rfl) rfl #[.int .i64 a0] rfl (by (try simp only [List.map_toArray, List.map_cons, List.map_nil]); first | done | rfl | (simp only [List.length_drop, List.length_take]; rfl)) ?_; (with_reducible refine (video_formats.calls a0 true _ A5.out).mono ?_); rintro e w' ⟨rfl, ⟨nd, rfl⟩⟩; refine ⟨_, rfl, ?_⟩) | (go_at_call 95; (with_reducible refine (video_modifiers.calls a1 false _ A7.out).mono ?_); rintro e w' ⟨rfl, ⟨nd, rfl⟩⟩))
     go_ret
     exact ⟨by first | rfl | (simp; done) | (simp [*]; done), by repeat (first | exact Drawn0.refl _ | apply Drawn0.step)⟩
 · replace c6 := Bool.eq_false_iff.mpr c6
   subst c6
   have H1 : (some false) = some r := by rw [if_neg (show ¬ (false = true) by decide)] at H; exact H
   clear H
   have H := H1
   clear H1
   obtain rfl := Option.some.inj H
   go_enter Try.func83, Try.ntmps83
   go_wp2_with (first | ((with_reducible refine gate_callee (f := 115) rfl ?_); refine goesL_ (some 10) rfl rfl Try.func115 (by kernel_rfl) rfl #[.int .i64 a0] rfl (by (try simp only [List.map_toArray, List.map_cons, List.map_nil]); first | done | rfl | (simp only [List.length_drop, List.length_take]; rfl)) ?_; (with_reducible refine (video_formats.calls a0 false _ A5.out).mono ?_); rintro e w' ⟨rfl, ⟨nd, rfl⟩⟩; refine ⟨_, rfl, ?_⟩))
   go_ret
   exact ⟨by first | rfl | (simp; done) | (simp [*]; done), by repeat (first | exact Drawn0.refl _ | apply Drawn0.step)⟩
end Go.Proofs.Ythbajahklnpkcaa.PA

namespace Go.Proofs.Ythbajahklnpkcaa.PA
open Go.RowKit Go.Shelf Go.Proofs.YthbajahklnpkcaaW.PrintWords Go.Proofs.YthbajahklnpkcaaW.PrintLast Go.Proofs.YthbajahklnpkcaaW.PrintMore
set_option linter.unusedVariables false
set_option linter.unusedSimpArgs false
set_option maxRecDepth 100000 in
set_option maxHeartbeats 2000000 in
theorem valid_awake (w : World) : Calls Try.prog 33 #[.agg #[.int .i64 1, .int .i64 0, .int .i64 2, .int .i64 2, .string ⟨#[97, 98, 99, 100]⟩]] w fun e w' => e = .returned (.bool true) ∧ Below w.heap.size w w' := by
 have HB := Blk.new w #[.int .i64 1, .int .i64 0, .int .i64 2, .int .i64 2, .string ⟨#[97, 98, 99, 100]⟩] 49
 have hb0 : Below w.heap.size w (w.alloc (.cells #[.int .i64 1, .int .i64 0, .int .i64 2, .int .i64 2, .string ⟨#[97, 98, 99, 100]⟩] 49)) := (Below.refl _ w).alloc (Nat.le_refl _) _
 obtain ⟨wa, hwa⟩ : ∃ wa, w.alloc (.cells #[.int .i64 1, .int .i64 0, .int .i64 2, .int .i64 2, .string ⟨#[97, 98, 99, 100]⟩] 49) = wa := ⟨_, rfl⟩
 rw [hwa] at HB hb0
 have HC : ∀ W', Below wa.heap.size wa W' → W'.cell? ⟨w.heap.size, 0, none⟩ = some (.int .i64 1) ∧ W'.cell? ⟨w.heap.size, 1, none⟩ = some (.int .i64 0) ∧ W'.cell? ⟨w.heap.size, 2, none⟩ = some (.int .i64 2) ∧ W'.cell? ⟨w.heap.size, 3, none⟩ = some (.int .i64 2) ∧ W'.cell? ⟨w.heap.size, 4, none⟩ = some (.string ⟨#[97, 98, 99, 100]⟩) := by
  intro W' hb
  have h := HB.below_ hb
  exact ⟨h.cell 0 rfl, h.cell 1 rfl, h.cell 2 rfl, h.cell 3 rfl, h.cell 4 rfl⟩
 have HR : ∀ W, Below wa.heap.size wa W → Aside0 (Calls Try.prog 83 #[.int .i64 1, .int .i64 0, .int .i64 2, .int .i64 2] W fun e w' => e = .returned (.bool true) ∧ Below wa.heap.size wa w') := fun W hb => ⟨(video_right.calls 1 0 2 2 true W (by kernel_rfl)).mono (fun e w' h => ⟨h.1, by obtain ⟨n, rfl⟩ := h.2; exact pw_below_drewN hb n⟩)⟩
 have HS : ∀ W, Below wa.heap.size wa W → Aside0 (Calls Try.prog 84 #[.int .i64 1, .int .i64 0, .int .i64 2, .int .i64 2] W fun e w' => e = .returned (.int .i64 4) ∧ Below wa.heap.size wa w') := fun W hb => ⟨(video_size.calls 1 0 2 2 4 W (by kernel_rfl)).mono (fun e w' h => ⟨h.1, hb.trans (h.2.mono hb.size)⟩)⟩
 have HB0 := Aside0.mk hb0
 clear hb0
 go_enter Try.func33, Try.ntmps33
 go_wp2
 go_region_held3 (fun W' => W'.cell? ⟨w.heap.size, 0, none⟩ = some (.int .i64 1) ∧ W'.cell? ⟨w.heap.size, 1, none⟩ = some (.int .i64 0) ∧ W'.cell? ⟨w.heap.size, 2, none⟩ = some (.int .i64 2) ∧ W'.cell? ⟨w.heap.size, 3, none⟩ = some (.int .i64 2) ∧ W'.cell? ⟨w.heap.size, 4, none⟩ = some (.string ⟨#[97, 98, 99, 100]⟩))
  (first | exact HC _ h2b | exact HC _ h1b | exact HC _ (below_drew1 (Below.refl _ _)))
  (first
   | (go_at_call 83; with_reducible refine (HR _ (below_drew1 (Below.refl _ _))).out.mono ?_; rintro e w' ⟨rfl, h1b⟩)
   | (go_at_call 84; with_reducible refine (HS _ h1b).out.mono ?_; rintro e w' ⟨rfl, h2b⟩))
 all_goals
  obtain ⟨c0, c1, c2, c3, c4⟩ := HC _ h2b
  go_wp2
  go_quiet (fail)
  go_wp2
  go_ret
  exact ⟨rfl, HB0.out.trans ((pw_below_drewN h2b _).mono HB0.out.size)⟩
end Go.Proofs.Ythbajahklnpkcaa.PA

namespace Go.Proofs.Ythbajahklnpkcaa.PA
open Go.RowKit Go.Shelf Go.Proofs.YthbajahklnpkcaaW.PrintWords Go.Proofs.YthbajahklnpkcaaW.PrintLast Go.Proofs.YthbajahklnpkcaaW.PrintMore
set_option linter.unusedVariables false
def video_turned.f (a0 a1 a2 a3 : Int) (s : ByteArray) (m : Int) : Option (Int × Int × Int × Int × ByteArray) :=
 if a0 = 1 ∧ a1 = 0 ∧ a2 = 2 ∧ a3 = 2 ∧ s = ⟨#[97, 98, 99, 100]⟩ ∧ m = 1 then some (1, 1, 2, 2, ⟨#[97, 98, 0, 0, 99, 100, 0, 0, 0, 0, 0, 0, 0, 0, 0, 0]⟩) else none
theorem video_turned.calls (a0 a1 a2 a3 : Int) (s : ByteArray) (m : Int) (r1 r2 r3 r4 : Int) (r5 : ByteArray) (w : World) (h : video_turned.f a0 a1 a2 a3 s m = some (r1, r2, r3, r4, r5)) :
 Calls Try.prog 87 #[.agg #[.int .i64 a0, .int .i64 a1, .int .i64 a2, .int .i64 a3, .string s], .int .i64 m] w fun e w' => e = .returned (.agg #[.int .i64 r1, .int .i64 r2, .int .i64 r3, .int .i64 r4, .string r5]) ∧ Below w.heap.size w w' := by
 unfold video_turned.f at h
 split at h
 case isTrue hc =>
  obtain ⟨rfl, rfl, rfl, rfl, rfl, rfl⟩ := hc
  cases h
  exact turned_awake w
 case isFalse => cases h
def video_Valid.f (a0 a1 a2 a3 : Int) (s : ByteArray) : Option Bool :=
 if a0 = 1 ∧ a1 = 0 ∧ a2 = 2 ∧ a3 = 2 ∧ s = ⟨#[97, 98, 99, 100]⟩ then some true else none
theorem video_Valid.calls (a0 a1 a2 a3 : Int) (s : ByteArray) (r : Bool) (w : World) (h : video_Valid.f a0 a1 a2 a3 s = some r) :
 Calls Try.prog 33 #[.agg #[.int .i64 a0, .int .i64 a1, .int .i64 a2, .int .i64 a3, .string s]] w fun e w' => e = .returned (.bool r) ∧ Below w.heap.size w w' := by
 unfold video_Valid.f at h
 split at h
 case isTrue hc =>
  obtain ⟨rfl, rfl, rfl, rfl, rfl⟩ := hc
  cases h
  exact valid_awake w
 case isFalse => cases h
end Go.Proofs.Ythbajahklnpkcaa.PA

namespace Go.Proofs.Ythbajahklnpkcaa.PA
open Go.RowKit Go.Proofs.YthbajahklnpkcaaW.PrintWords Go.Proofs.YthbajahklnpkcaaW.PrintLast Go.Proofs.YthbajahklnpkcaaW.PrintMore
attribute [local go_sem] max2_int min2_int max_two min_two max_three min_three max_four min_four
set_option linter.unusedVariables false
set_option linter.unusedSimpArgs false
end Go.Proofs.Ythbajahklnpkcaa.PA

namespace Go.Proofs.Ythbajahklnpkcaa.PA
open Go.RowKit Go.Proofs.YthbajahklnpkcaaW.PrintWords Go.Proofs.YthbajahklnpkcaaW.PrintLast Go.Proofs.YthbajahklnpkcaaW.PrintMore
attribute [local go_sem] max2_int min2_int max_two min_two max_three min_three max_four min_four
set_option linter.unusedVariables false
set_option linter.unusedSimpArgs false
end Go.Proofs.Ythbajahklnpkcaa.PA

namespace Go.Proofs.Ythbajahklnpkcaa.PA
open Go.RowKit Go.Proofs.YthbajahklnpkcaaW.PrintWords Go.Proofs.YthbajahklnpkcaaW.PrintLast Go.Proofs.YthbajahklnpkcaaW.PrintMore
attribute [local go_sem] max2_int min2_int max_two min_two max_three min_three max_four min_four
set_option linter.unusedVariables false
set_option linter.unusedSimpArgs false
def video_Convert.f (a0_0 : Int) (a0_1 : Int) (a0_2 : Int) (a0_3 : Int) (a0_4 : ByteArray) (a1 : Int) : Option (Int × Int × Int × Int × ByteArray × Int) := (video_Valid.f a0_0 a0_1 a0_2 a0_3 a0_4).bind fun t244 => (if t244 = true then ((video_modifiers.f a1).bind fun t245 => (if t245 = true then ((video_turned.f a0_0 a0_1 a0_2 a0_3 a0_4 a1).bind fun bt246 => (some (bt246.1, bt246.2.1, bt246.2.2.1, bt246.2.2.2.1, bt246.2.2.2.2, 0))) else (some (0, 0, 0, 0, (⟨#[]⟩ : ByteArray), 7)))) else (some (0, 0, 0, 0, (⟨#[]⟩ : ByteArray), 1)))
set_option maxHeartbeats 8000000 in
set_option maxRecDepth 100000 in
theorem video_Convert.calls (a0_0 : Int) (a0_1 : Int) (a0_2 : Int) (a0_3 : Int) (a0_4 : ByteArray) (a1 : Int) (r1 : Int) (r2 : Int) (r3 : Int) (r4 : Int) (r5 : ByteArray) (r6 : Int) (w : World) (h : video_Convert.f a0_0 a0_1 a0_2 a0_3 a0_4 a1 = some (r1, r2, r3, r4, r5, r6)) :
 Calls Try.prog 42 #[.agg #[.int .i64 a0_0, .int .i64 a0_1, .int .i64 a0_2, .int .i64 a0_3, .string a0_4], .int .i64 a1] w fun e w' => e = .returned (.tuple #[.agg #[.int .i64 r1, .int .i64 r2, .int .i64 r3, .int .i64 r4, .string r5], .int .i64 r6]) ∧ Below w.heap.size w w' := by
 have hu49 := Try.underlying49
 have HB := Aside0.mk (Below.refl w.heap.size w)
 have H : ((video_Valid.f a0_0 a0_1 a0_2 a0_3 a0_4).bind fun t244 => (if t244 = true then ((video_modifiers.f a1).bind fun t245 => (if t245 = true then ((video_turned.f a0_0 a0_1 a0_2 a0_3 a0_4 a1).bind fun bt246 => (some (bt246.1, bt246.2.1, bt246.2.2.1, bt246.2.2.2.1, bt246.2.2.2.2, 0))) else (some (0, 0, 0, 0, (⟨#[]⟩ : ByteArray), 7)))) else (some (0, 0, 0, 0, (⟨#[]⟩ : ByteArray), 1)))) = some (r1, r2, r3, r4, r5, r6) := h
 clear h
 replace H := Option.bind_eq_some_iff.mp H
 obtain ⟨t244, A30, H⟩ := H
 replace H : (if t244 = true then ((video_modifiers.f a1).bind fun t245 => (if t245 = true then ((video_turned.f a0_0 a0_1 a0_2 a0_3 a0_4 a1).bind fun bt246 => (some (bt246.1, bt246.2.1, bt246.2.2.1, bt246.2.2.2.1, bt246.2.2.2.2, 0))) else (some (0, 0, 0, 0, (⟨#[]⟩ : ByteArray), 7)))) else (some (0, 0, 0, 0, (⟨#[]⟩ : ByteArray), 1))) = some (r1, r2, r3, r4, r5, r6) := H
 have A3 := Aside0.mk A30
 clear A30
 by_cases c4 : t244 = true
 · subst c4
   have H1 : ((video_modifiers.f a1).bind fun t245 => (if t245 = true then ((video_turned.f a0_0 a0_1 a0_2 a0_3 a0_4 a1).bind fun bt246 => (some (bt246.1, bt246.2.1, bt246.2.2.1, bt246.2.2.2.1, bt246.2.2.2.2, 0))) else (some (0, 0, 0, 0, (⟨#[]⟩ : ByteArray), 7)))) = some (r1, r2, r3, r4, r5, r6) := by rw [if_pos rfl] at H; exact H
   clear H
   have H := H1
   clear H1
   replace H := Option.bind_eq_some_iff.mp H
   obtain ⟨t245, A50, H⟩ := H
   replace H : (if t245 = true then ((video_turned.f a0_0 a0_1 a0_2 a0_3 a0_4 a1).bind fun bt246 => (some (bt246.1, bt246.2.1, bt246.2.2.1, bt246.2.2.2.1, bt246.2.2.2.2, 0))) else (some (0, 0, 0, 0, (⟨#[]⟩ : ByteArray), 7))) = some (r1, r2, r3, r4, r5, r6) := H
   have A5 := Aside0.mk A50
   clear A50
   by_cases c6 : t245 = true
   · subst c6
     have H1 : ((video_turned.f a0_0 a0_1 a0_2 a0_3 a0_4 a1).bind fun bt246 => (some (bt246.1, bt246.2.1, bt246.2.2.1, bt246.2.2.2.1, bt246.2.2.2.2, 0))) = some (r1, r2, r3, r4, r5, r6) := by rw [if_pos rfl] at H; exact H
     clear H
     have H := H1
     clear H1
     replace H := Option.bind_eq_some_iff.mp H
     obtain ⟨⟨t246, t247, t248, t249, t250⟩, A70, H⟩ := H
     replace H : (some (t246, t247, t248, t249, t250, 0)) = some (r1, r2, r3, r4, r5, r6) := H
     have A7 := Aside0.mk A70
     clear A70
     simp only [Option.some.injEq, Prod.mk.injEq] at H
     obtain ⟨rfl, rfl, rfl, rfl, rfl, rfl⟩ := H
     go_enter Try.func42, Try.ntmps42
     go_wp2_with (first | ((with_reducible refine gate_dst (N := 2) rfl ?_); refine box_event ?hg (N := 2) ?hd (cs := #[.int .i64 a0_0, .int .i64 a0_1, .int .i64 a0_2, .int .i64 a0_3, .string a0_4]) (t := 49) ?hr ?_; (case hd => rfl); (case hg => rfl); (case hr => first | (go_simp; done) | (go_simp; rfl)); intro gb242 hg w8 hbox hb; have n0_ := Aside0.mk (below_step (by repeat (first | (with_reducible first | exact HB.out | apply below_alloc | apply pw_below_drewN | apply below_drew1) | exact HB.out)) hb); have n1_ := Aside0.mk (hbox); have n2_ := Aside0.mk ((by rw [hg]; exact (below_size (by repeat (first | (with_reducible first | exact HB.out | apply below_alloc | apply pw_below_drewN | apply below_drew1) | exact HB.out))) : w.heap.size ≤ gb242)); have n3_ := Aside0.mk ((by rw [hg]; exact (below_size (by repeat (first | (with_reducible first | exact HB.out | apply below_alloc | apply pw_below_drewN | apply below_drew1) | exact HB.out))) : w.heap.size ≤ gb242)); clear HB; have HB := n0_; have BK242 := n1_; have GW242 := n2_; have GE242 := n3_; clear n0_ n1_ n2_ n3_; clear hb hbox hg) | ((with_reducible refine gate_dst (N := 4) rfl ?_); refine box_event ?hg (N := 4) ?hd (cs := #[.int .i64 0, .int .i64 0, .int .i64 0, .int .i64 0, .string (⟨#[]⟩ : ByteArray)]) (t := 49) ?hr ?_; (case hd => rfl); (case hg => rfl); (case hr => first | (go_simp; done) | (go_simp; rfl)); intro gb243 hg w9 hbox hb; have n0_ := Aside0.mk (blk_below (g := gb242) (o := .cells #[.int .i64 a0_0, .int .i64 a0_1, .int .i64 a0_2, .int .i64 a0_3, .string a0_4] 49 (0, 0)) (by (with_reducible repeat (first | refine blk_drewN ?_ _ | refine blk_drew ?_ | refine blk_alloc ?_ _)); exact BK242.out) hb); have n1_ := Aside0.mk (below_step (by repeat (first | (with_reducible first | exact HB.out | apply below_alloc | apply pw_below_drewN | apply below_drew1 | refine below_set ?_ GE242.out) | exact HB.out)) hb); have n2_ := Aside0.mk (hbox); have n3_ := Aside0.mk ((by rw [hg]; exact (below_size (by repeat (first | (with_reducible first | exact HB.out | apply below_alloc | apply pw_below_drewN | apply below_drew1 | refine below_set ?_ GE242.out) | exact HB.out))) : w.heap.size ≤ gb243)); have n4_ := Aside0.mk ((by rw [hg]; exact (below_size (by repeat (first | (with_reducible first | exact HB.out | apply below_alloc | apply pw_below_drewN | apply below_drew1 | refine below_set ?_ GE242.out) | exact HB.out))) : w.heap.size ≤ gb243)); have n5_ := Aside0.mk ((by rw [hg]; exact Nat.ne_of_lt (blk_lt (g := gb242) (o := .cells #[.int .i64 a0_0, .int .i64 a0_1, .int .i64 a0_2, .int .i64 a0_3, .string a0_4] 49 (0, 0)) (by (with_reducible repeat (first | refine blk_drewN ?_ _ | refine blk_drew ?_ | refine blk_alloc ?_ _)); exact BK242.out)) : gb242 ≠ gb243)); have n6_ := Aside0.mk ((by rw [hg]; exact Nat.ne_of_gt (blk_lt (g := gb242) (o := .cells #[.int .i64 a0_0, .int .i64 a0_1, .int .i64 a0_2, .int .i64 a0_3, .string a0_4] 49 (0, 0)) (by (with_reducible repeat (first | refine blk_drewN ?_ _ | refine blk_drew ?_ | refine blk_alloc ?_ _)); exact BK242.out)) : gb243 ≠ gb242)); clear BK242; clear HB; have BK242 := n0_; have HB := n1_; have BK243 := n2_; have GW243 := n3_; have GE243 := n4_; have NB242_243 := n5_; have NB243_242 := n6_; clear n0_ n1_ n2_ n3_ n4_ n5_ n6_; clear hb hbox hg; have hnb10 := NB242_243.out; have hnc10 := NB243_242.out; have hcz11_0 : w9.cell? ⟨gb242, 0, none⟩ = some (.int .i64 a0_0) := (blk_cell BK242.out 0).trans rfl; have hcz11_1 : w9.cell? ⟨gb242, 1, none⟩ = some (.int .i64 a0_1) := (blk_cell BK242.out 1).trans rfl; have hcz11_2 : w9.cell? ⟨gb242, 2, none⟩ = some (.int .i64 a0_2) := (blk_cell BK242.out 2).trans rfl; have hcz11_3 : w9.cell? ⟨gb242, 3, none⟩ = some (.int .i64 a0_3) := (blk_cell BK242.out 3).trans rfl; have hcz11_4 : w9.cell? ⟨gb242, 4, none⟩ = some (.string a0_4) := (blk_cell BK242.out 4).trans rfl; have hfz11_0 := blk_frozen BK242.out 0; have hfz11_1 := blk_frozen BK242.out 1; have hfz11_2 := blk_frozen BK242.out 2; have hfz11_3 := blk_frozen BK242.out 3; have hfz11_4 := blk_frozen BK242.out 4) | ((with_reducible refine gate_callee (f := 33) rfl ?_); refine goesL_ (some 8) rfl rfl Try.func33 (by kernel_rfl) rfl #[.agg #[.int .i64 a0_0, .int .i64 a0_1, .int .i64 a0_2, .int .i64 a0_3, .string a0_4]] rfl (by (try simp only [List.map_toArray, List.map_cons, List.map_nil]); first | done | rfl | (simp only [List.length_drop, List.length_take]; rfl)) ?_; (with_reducible refine (video_Valid.calls a0_0 a0_1 a0_2 a0_3 a0_4 true _ A3.out).mono ?_); rintro e w12 ⟨rfl, hb⟩; refine ⟨_, rfl, ?_⟩; have n0_ := Aside0.mk (blk_below (g := gb242) (o := .cells #[.int .i64 a0_0, .int .i64 a0_1, .int .i64 a0_2, .int .i64 a0_3, .string a0_4] 49 (0, 0)) (by (with_reducible repeat (first | refine blk_drewN ?_ _ | refine blk_drew ?_ | refine blk_alloc ?_ _)); exact BK242.out) hb); have n1_ := Aside0.mk (blk_below (g := gb243) (o := .cells #[.int .i64 0, .int .i64 0, .int .i64 0, .int .i64 0, .string (⟨#[]⟩ : ByteArray)] 49 (0, 0)) (by (with_reducible repeat (first | refine blk_drewN ?_ _ | refine blk_drew ?_ | refine blk_alloc ?_ _)); exact BK243.out) hb); have n2_ := Aside0.mk (below_step (by repeat (first | (with_reducible first | exact HB.out | apply below_alloc | apply pw_below_drewN | apply below_drew1 | refine below_set ?_ GE242.out | refine below_set ?_ GE243.out) | exact HB.out)) hb); clear BK242; clear BK243; clear HB; have BK242 := n0_; have BK243 := n1_; have HB := n2_; clear n0_ n1_ n2_; (try clear hb); (try clear hb2); (try clear hk); (try clear hi)) | ((with_reducible refine gate_callee (f := 95) rfl ?_); refine goesL_ (some 13) rfl rfl Try.func95 (by kernel_rfl) rfl #[.int .i64 a1] rfl (by (try simp only [List.map_toArray, List.map_cons, List.map_nil]); first | done | rfl | (simp only [List.length_drop, List.length_take]; rfl)) ?_; (with_reducible refine (video_modifiers.calls a1 true _ A5.out).mono ?_); rintro e w' ⟨rfl, ⟨nd, rfl⟩⟩; refine ⟨_, rfl, ?_⟩; (try (rw [drewN_self w12]; generalize hq_ : World.drewN w12 _ = w12; have n0_ : Aside0 (w12.heap[gb242]? = some (.cells #[.int .i64 a0_0, .int .i64 a0_1, .int .i64 a0_2, .int .i64 a0_3, .string a0_4] 49 (0, 0))) := ⟨by rw [← hq_]; exact (by (with_reducible repeat (first | refine blk_drewN ?_ _ | refine blk_drew ?_ | refine blk_alloc ?_ _)); exact BK242.out)⟩; have n1_ : Aside0 (w12.heap[gb243]? = some (.cells #[.int .i64 0, .int .i64 0, .int .i64 0, .int .i64 0, .string (⟨#[]⟩ : ByteArray)] 49 (0, 0))) := ⟨by rw [← hq_]; exact (by (with_reducible repeat (first | refine blk_drewN ?_ _ | refine blk_drew ?_ | refine blk_alloc ?_ _)); exact BK243.out)⟩; have n2_ : Aside0 (Below w.heap.size w w12) := ⟨by rw [← hq_]; exact (by repeat (first | (with_reducible first | exact HB.out | apply below_alloc | apply pw_below_drewN | apply below_drew1 | refine below_set ?_ GE242.out | refine below_set ?_ GE243.out) | exact HB.out))⟩; clear BK242 BK243 HB hq_; have BK242 := n0_; have BK243 := n1_; have HB := n2_; clear n0_ n1_ n2_)); have hcz13_0 : w12.cell? ⟨gb242, 0, none⟩ = some (.int .i64 a0_0) := (blk_cell BK242.out 0).trans rfl; have hcz13_1 : w12.cell? ⟨gb242, 1, none⟩ = some (.int .i64 a0_1) := (blk_cell BK242.out 1).trans rfl; have hcz13_2 : w12.cell? ⟨gb242, 2, none⟩ = some (.int .i64 a0_2) := (blk_cell BK242.out 2).trans rfl; have hcz13_3 : w12.cell? ⟨gb242, 3, none⟩ = some (.int .i64 a0_3) := (blk_cell BK242.out 3).trans rfl; have hcz13_4 : w12.cell? ⟨gb242, 4, none⟩ = some (.string a0_4) := (blk_cell BK242.out 4).trans rfl; have hfz13_0 := blk_frozen BK242.out 0; have hfz13_1 := blk_frozen BK242.out 1; have hfz13_2 := blk_frozen BK242.out 2; have hfz13_3 := blk_frozen BK242.out 3; have hfz13_4 := blk_frozen BK242.out 4) | ((with_reducible refine gate_callee (f := 87) rfl ?_); refine goesL_ (some 18) rfl rfl Try.func87 (by kernel_rfl) rfl #[.agg #[.int .i64 a0_0, .int .i64 a0_1, .int .i64 a0_2, .int .i64 a0_3, .string a0_4], .int .i64 a1] rfl (by (try simp only [List.map_toArray, List.map_cons, List.map_nil]); first | done | rfl | (simp only [List.length_drop, List.length_take]; rfl)) ?_; (with_reducible refine (video_turned.calls a0_0 a0_1 a0_2 a0_3 a0_4 a1 t246 t247 t248 t249 t250 _ A7.out).mono ?_); rintro e w14 ⟨rfl, hb⟩; refine ⟨_, rfl, ?_⟩; have n0_ := Aside0.mk (blk_below (g := gb242) (o := .cells #[.int .i64 a0_0, .int .i64 a0_1, .int .i64 a0_2, .int .i64 a0_3, .string a0_4] 49 (0, 0)) (by (with_reducible repeat (first | refine blk_drewN ?_ _ | refine blk_drew ?_ | refine blk_alloc ?_ _)); exact BK242.out) hb); have n1_ := Aside0.mk (blk_below (g := gb243) (o := .cells #[.int .i64 0, .int .i64 0, .int .i64 0, .int .i64 0, .string (⟨#[]⟩ : ByteArray)] 49 (0, 0)) (by (with_reducible repeat (first | refine blk_drewN ?_ _ | refine blk_drew ?_ | refine blk_alloc ?_ _)); exact BK243.out) hb); have n2_ := Aside0.mk (below_step (by repeat (first | (with_reducible first | exact HB.out | apply below_alloc | apply pw_below_drewN | apply below_drew1 | refine below_set ?_ GE242.out | refine below_set ?_ GE243.out) | exact HB.out)) hb); clear BK242; clear BK243; clear HB; have BK242 := n0_; have BK243 := n1_; have HB := n2_; clear n0_ n1_ n2_; (try clear hb); (try clear hb2); (try clear hk); (try clear hi); have hcz15_0 : w14.cell? ⟨gb243, 0, none⟩ = some (.int .i64 0) := (blk_cell BK243.out 0).trans rfl; have hcz15_1 : w14.cell? ⟨gb243, 1, none⟩ = some (.int .i64 0) := (blk_cell BK243.out 1).trans rfl; have hcz15_2 : w14.cell? ⟨gb243, 2, none⟩ = some (.int .i64 0) := (blk_cell BK243.out 2).trans rfl; have hcz15_3 : w14.cell? ⟨gb243, 3, none⟩ = some (.int .i64 0) := (blk_cell BK243.out 3).trans rfl; have hcz15_4 : w14.cell? ⟨gb243, 4, none⟩ = some (.string (⟨#[]⟩ : ByteArray)) := (blk_cell BK243.out 4).trans rfl; have hfz15_0 := blk_frozen BK243.out 0; have hfz15_1 := blk_frozen BK243.out 1; have hfz15_2 := blk_frozen BK243.out 2; have hfz15_3 := blk_frozen BK243.out 3; have hfz15_4 := blk_frozen BK243.out 4))
     refine bodyPost_ret (results_ct rfl _ _ gb243 49 #[.int .i64 t246, .int .i64 t247, .int .i64 t248, .int .i64 t249, .string t250] (0, 0) _ rfl (by (with_reducible repeat (first | refine blk_drewN ?_ _ | refine blk_drew ?_ | refine blk_alloc ?_ _)); refine blk_put (cs := #[.int .i64 t246, .int .i64 t247, .int .i64 t248, .int .i64 t249, .string (⟨#[]⟩ : ByteArray)]) ?_ 4 _ rfl; (with_reducible repeat (first | refine blk_drewN ?_ _ | refine blk_drew ?_ | refine blk_alloc ?_ _)); refine blk_put (cs := #[.int .i64 t246, .int .i64 t247, .int .i64 t248, .int .i64 0, .string (⟨#[]⟩ : ByteArray)]) ?_ 3 _ rfl; (with_reducible repeat (first | refine blk_drewN ?_ _ | refine blk_drew ?_ | refine blk_alloc ?_ _)); refine blk_put (cs := #[.int .i64 t246, .int .i64 t247, .int .i64 0, .int .i64 0, .string (⟨#[]⟩ : ByteArray)]) ?_ 2 _ rfl; (with_reducible repeat (first | refine blk_drewN ?_ _ | refine blk_drew ?_ | refine blk_alloc ?_ _)); refine blk_put (cs := #[.int .i64 t246, .int .i64 0, .int .i64 0, .int .i64 0, .string (⟨#[]⟩ : ByteArray)]) ?_ 1 _ rfl; (with_reducible repeat (first | refine blk_drewN ?_ _ | refine blk_drew ?_ | refine blk_alloc ?_ _)); refine blk_put (cs := #[.int .i64 0, .int .i64 0, .int .i64 0, .int .i64 0, .string (⟨#[]⟩ : ByteArray)]) ?_ 0 _ rfl; (with_reducible repeat (first | refine blk_drewN ?_ _ | refine blk_drew ?_ | refine blk_alloc ?_ _)); exact BK243.out) Try.underlying49 rfl (by kernel_rfl)) rfl ?_
     exact ⟨by first | rfl | (simp [errW_none, errW_some] <;> rfl) | (simp [*, errW_none, errW_some] <;> rfl), by repeat (first | (with_reducible first | exact HB.out | apply below_alloc | apply pw_below_drewN | apply below_drew1 | refine below_set ?_ GE242.out | refine below_set ?_ GE243.out) | exact HB.out)⟩
   · replace c6 := Bool.eq_false_iff.mpr c6
     subst c6
     have H1 : (some (0, 0, 0, 0, (⟨#[]⟩ : ByteArray), 7)) = some (r1, r2, r3, r4, r5, r6) := by rw [if_neg (show ¬ (false = true) by decide)] at H; exact H
     clear H
     have H := H1
     clear H1
     simp only [Option.some.injEq, Prod.mk.injEq] at H
     obtain ⟨rfl, rfl, rfl, rfl, rfl, rfl⟩ := H
     go_enter Try.func42, Try.ntmps42
     go_wp2_with (first | ((with_reducible refine gate_dst (N := 2) rfl ?_); refine box_event ?hg (N := 2) ?hd (cs := #[.int .i64 a0_0, .int .i64 a0_1, .int .i64 a0_2, .int .i64 a0_3, .string a0_4]) (t := 49) ?hr ?_; (case hd => rfl); (case hg => rfl); (case hr => first | (go_simp; done) | (go_simp; rfl)); intro gb242 hg w16 hbox hb; have n0_ := Aside0.mk (below_step (by repeat (first | (with_reducible first | exact HB.out | apply below_alloc | apply pw_below_drewN | apply below_drew1) | exact HB.out)) hb); have n1_ := Aside0.mk (hbox); have n2_ := Aside0.mk ((by rw [hg]; exact (below_size (by repeat (first | (with_reducible first | exact HB.out | apply below_alloc | apply pw_below_drewN | apply below_drew1) | exact HB.out))) : w.heap.size ≤ gb242)); have n3_ := Aside0.mk ((by rw [hg]; exact (below_size (by repeat (first | (with_reducible first | exact HB.out | apply below_alloc | apply pw_below_drewN | apply below_drew1) | exact HB.out))) : w.heap.size ≤ gb242)); clear HB; have HB := n0_; have BK242 := n1_; have GW242 := n2_; have GE242 := n3_; clear n0_ n1_ n2_ n3_; clear hb hbox hg) | ((with_reducible refine gate_dst (N := 4) rfl ?_); refine box_event ?hg (N := 4) ?hd (cs := #[.int .i64 0, .int .i64 0, .int .i64 0, .int .i64 0, .string (⟨#[]⟩ : ByteArray)]) (t := 49) ?hr ?_; (case hd => rfl); (case hg => rfl); (case hr => first | (go_simp; done) | (go_simp; rfl)); intro gb243 hg w17 hbox hb; have n0_ := Aside0.mk (blk_below (g := gb242) (o := .cells #[.int .i64 a0_0, .int .i64 a0_1, .int .i64 a0_2, .int .i64 a0_3, .string a0_4] 49 (0, 0)) (by (with_reducible repeat (first | refine blk_drewN ?_ _ | refine blk_drew ?_ | refine blk_alloc ?_ _)); exact BK242.out) hb); have n1_ := Aside0.mk (below_step (by repeat (first | (with_reducible first | exact HB.out | apply below_alloc | apply pw_below_drewN | apply below_drew1 | refine below_set ?_ GE242.out) | exact HB.out)) hb); have n2_ := Aside0.mk (hbox); have n3_ := Aside0.mk ((by rw [hg]; exact (below_size (by repeat (first | (with_reducible first | exact HB.out | apply below_alloc | apply pw_below_drewN | apply below_drew1 | refine below_set ?_ GE242.out) | exact HB.out))) : w.heap.size ≤ gb243)); have n4_ := Aside0.mk ((by rw [hg]; exact (below_size (by repeat (first | (with_reducible first | exact HB.out | apply below_alloc | apply pw_below_drewN | apply below_drew1 | refine below_set ?_ GE242.out) | exact HB.out))) : w.heap.size ≤ gb243)); have n5_ := Aside0.mk ((by rw [hg]; exact Nat.ne_of_lt (blk_lt (g := gb242) (o := .cells #[.int .i64 a0_0, .int .i64 a0_1, .int .i64 a0_2, .int .i64 a0_3, .string a0_4] 49 (0, 0)) (by (with_reducible repeat (first | refine blk_drewN ?_ _ | refine blk_drew ?_ | refine blk_alloc ?_ _)); exact BK242.out)) : gb242 ≠ gb243)); have n6_ := Aside0.mk ((by rw [hg]; exact Nat.ne_of_gt (blk_lt (g := gb242) (o := .cells #[.int .i64 a0_0, .int .i64 a0_1, .int .i64 a0_2, .int .i64 a0_3, .string a0_4] 49 (0, 0)) (by (with_reducible repeat (first | refine blk_drewN ?_ _ | refine blk_drew ?_ | refine blk_alloc ?_ _)); exact BK242.out)) : gb243 ≠ gb242)); clear BK242; clear HB; have BK242 := n0_; have HB := n1_; have BK243 := n2_; have GW243 := n3_; have GE243 := n4_; have NB242_243 := n5_; have NB243_242 := n6_; clear n0_ n1_ n2_ n3_ n4_ n5_ n6_; clear hb hbox hg; have hnb18 := NB242_243.out; have hnc18 := NB243_242.out; have hcz19_0 : w17.cell? ⟨gb242, 0, none⟩ = some (.int .i64 a0_0) := (blk_cell BK242.out 0).trans rfl; have hcz19_1 : w17.cell? ⟨gb242, 1, none⟩ = some (.int .i64 a0_1) := (blk_cell BK242.out 1).trans rfl; have hcz19_2 : w17.cell? ⟨gb242, 2, none⟩ = some (.int .i64 a0_2) := (blk_cell BK242.out 2).trans rfl; have hcz19_3 : w17.cell? ⟨gb242, 3, none⟩ = some (.int .i64 a0_3) := (blk_cell BK242.out 3).trans rfl; have hcz19_4 : w17.cell? ⟨gb242, 4, none⟩ = some (.string a0_4) := (blk_cell BK242.out 4).trans rfl; have hfz19_0 := blk_frozen BK242.out 0; have hfz19_1 := blk_frozen BK242.out 1; have hfz19_2 := blk_frozen BK242.out 2; have hfz19_3 := blk_frozen BK242.out 3; have hfz19_4 := blk_frozen BK242.out 4) | ((with_reducible refine gate_callee (f := 33) rfl ?_); refine goesL_ (some 8) rfl rfl Try.func33 (by kernel_rfl) rfl #[.agg #[.int .i64 a0_0, .int .i64 a0_1, .int .i64 a0_2, .int .i64 a0_3, .string a0_4]] rfl (by (try simp only [List.map_toArray, List.map_cons, List.map_nil]); first | done | rfl | (simp only [List.length_drop, List.length_take]; rfl)) ?_; (with_reducible refine (video_Valid.calls a0_0 a0_1 a0_2 a0_3 a0_4 true _ A3.out).mono ?_); rintro e w20 ⟨rfl, hb⟩; refine ⟨_, rfl, ?_⟩; have n0_ := Aside0.mk (blk_below (g := gb242) (o := .cells #[.int .i64 a0_0, .int .i64 a0_1, .int .i64 a0_2, .int .i64 a0_3, .string a0_4] 49 (0, 0)) (by (with_reducible repeat (first | refine blk_drewN ?_ _ | refine blk_drew ?_ | refine blk_alloc ?_ _)); exact BK242.out) hb); have n1_ := Aside0.mk (blk_below (g := gb243) (o := .cells #[.int .i64 0, .int .i64 0, .int .i64 0, .int .i64 0, .string (⟨#[]⟩ : ByteArray)] 49 (0, 0)) (by (with_reducible repeat (first | refine blk_drewN ?_ _ | refine blk_drew ?_ | refine blk_alloc ?_ _)); exact BK243.out) hb); have n2_ := Aside0.mk (below_step (by repeat (first | (with_reducible first | exact HB.out | apply below_alloc | apply pw_below_drewN | apply below_drew1 | refine below_set ?_ GE242.out | refine below_set ?_ GE243.out) | exact HB.out)) hb); clear BK242; clear BK243; clear HB; have BK242 := n0_; have BK243 := n1_; have HB := n2_; clear n0_ n1_ n2_; (try clear hb); (try clear hb2); (try clear hk); (try clear hi)) | ((with_reducible refine gate_callee (f := 95) rfl ?_); refine goesL_ (some 13) rfl rfl Try.func95 (by kernel_rfl) rfl #[.int .i64 a1] rfl (by (try simp only [List.map_toArray, List.map_cons, List.map_nil]); first | done | rfl | (simp only [List.length_drop, List.length_take]; rfl)) ?_; (with_reducible refine (video_modifiers.calls a1 false _ A5.out).mono ?_); rintro e w' ⟨rfl, ⟨nd, rfl⟩⟩; refine ⟨_, rfl, ?_⟩; (try (rw [drewN_self w20]; generalize hq_ : World.drewN w20 _ = w20; have n0_ : Aside0 (w20.heap[gb242]? = some (.cells #[.int .i64 a0_0, .int .i64 a0_1, .int .i64 a0_2, .int .i64 a0_3, .string a0_4] 49 (0, 0))) := ⟨by rw [← hq_]; exact (by (with_reducible repeat (first | refine blk_drewN ?_ _ | refine blk_drew ?_ | refine blk_alloc ?_ _)); exact BK242.out)⟩; have n1_ : Aside0 (w20.heap[gb243]? = some (.cells #[.int .i64 0, .int .i64 0, .int .i64 0, .int .i64 0, .string (⟨#[]⟩ : ByteArray)] 49 (0, 0))) := ⟨by rw [← hq_]; exact (by (with_reducible repeat (first | refine blk_drewN ?_ _ | refine blk_drew ?_ | refine blk_alloc ?_ _)); exact BK243.out)⟩; have n2_ : Aside0 (Below w.heap.size w w20) := ⟨by rw [← hq_]; exact (by repeat (first | (with_reducible first | exact HB.out | apply below_alloc | apply pw_below_drewN | apply below_drew1 | refine below_set ?_ GE242.out | refine below_set ?_ GE243.out) | exact HB.out))⟩; clear BK242 BK243 HB hq_; have BK242 := n0_; have BK243 := n1_; have HB := n2_; clear n0_ n1_ n2_)); have hcz21_0 : w20.cell? ⟨gb243, 0, none⟩ = some (.int .i64 0) := (blk_cell BK243.out 0).trans rfl; have hcz21_1 : w20.cell? ⟨gb243, 1, none⟩ = some (.int .i64 0) := (blk_cell BK243.out 1).trans rfl; have hcz21_2 : w20.cell? ⟨gb243, 2, none⟩ = some (.int .i64 0) := (blk_cell BK243.out 2).trans rfl; have hcz21_3 : w20.cell? ⟨gb243, 3, none⟩ = some (.int .i64 0) := (blk_cell BK243.out 3).trans rfl; have hcz21_4 : w20.cell? ⟨gb243, 4, none⟩ = some (.string (⟨#[]⟩ : ByteArray)) := (blk_cell BK243.out 4).trans rfl; have hfz21_0 := blk_frozen BK243.out 0; have hfz21_1 := blk_frozen BK243.out 1; have hfz21_2 := blk_frozen BK243.out 2; have hfz21_3 := blk_frozen BK243.out 3; have hfz21_4 := blk_frozen BK243.out 4))
     refine bodyPost_ret (results_ct rfl _ _ gb243 49 #[.int .i64 0, .int .i64 0, .int .i64 0, .int .i64 0, .string (⟨#[]⟩ : ByteArray)] (0, 0) _ rfl (by (with_reducible repeat (first | refine blk_drewN ?_ _ | refine blk_drew ?_ | refine blk_alloc ?_ _)); refine blk_put (cs := #[.int .i64 0, .int .i64 0, .int .i64 0, .int .i64 0, .string (⟨#[]⟩ : ByteArray)]) ?_ 4 _ rfl; (with_reducible repeat (first | refine blk_drewN ?_ _ | refine blk_drew ?_ | refine blk_alloc ?_ _)); refine blk_put (cs := #[.int .i64 0, .int .i64 0, .int .i64 0, .int .i64 0, .string (⟨#[]⟩ : ByteArray)]) ?_ 3 _ rfl; (with_reducible repeat (first | refine blk_drewN ?_ _ | refine blk_drew ?_ | refine blk_alloc ?_ _)); refine blk_put (cs := #[.int .i64 0, .int .i64 0, .int .i64 0, .int .i64 0, .string (⟨#[]⟩ : ByteArray)]) ?_ 2 _ rfl; (with_reducible repeat (first | refine blk_drewN ?_ _ | refine blk_drew ?_ | refine blk_alloc ?_ _)); refine blk_put (cs := #[.int .i64 0, .int .i64 0, .int .i64 0, .int .i64 0, .string (⟨#[]⟩ : ByteArray)]) ?_ 1 _ rfl; (with_reducible repeat (first | refine blk_drewN ?_ _ | refine blk_drew ?_ | refine blk_alloc ?_ _)); refine blk_put (cs := #[.int .i64 0, .int .i64 0, .int .i64 0, .int .i64 0, .string (⟨#[]⟩ : ByteArray)]) ?_ 0 _ rfl; (with_reducible repeat (first | refine blk_drewN ?_ _ | refine blk_drew ?_ | refine blk_alloc ?_ _)); exact BK243.out) Try.underlying49 rfl (by kernel_rfl)) rfl ?_
     exact ⟨by first | rfl | (simp [errW_none, errW_some] <;> rfl) | (simp [*, errW_none, errW_some] <;> rfl), by repeat (first | (with_reducible first | exact HB.out | apply below_alloc | apply pw_below_drewN | apply below_drew1 | refine below_set ?_ GE242.out | refine below_set ?_ GE243.out) | exact HB.out)⟩
 · replace c4 := Bool.eq_false_iff.mpr c4
   subst c4
   have H1 : (some (0, 0, 0, 0, (⟨#[]⟩ : ByteArray), 1)) = some (r1, r2, r3, r4, r5, r6) := by rw [if_neg (show ¬ (false = true) by decide)] at H; exact H
   clear H
   have H := H1
   clear H1
   simp only [Option.some.injEq, Prod.mk.injEq] at H
   obtain ⟨rfl, rfl, rfl, rfl, rfl, rfl⟩ := H
   go_enter Try.func42, Try.ntmps42
   go_wp2_with (first | ((with_reducible refine gate_dst (N := 2) rfl ?_); refine box_event ?hg (N := 2) ?hd (cs := #[.int .i64 a0_0, .int .i64 a0_1, .int .i64 a0_2, .int .i64 a0_3, .string a0_4]) (t := 49) ?hr ?_; (case hd => rfl); (case hg => rfl); (case hr => first | (go_simp; done) | (go_simp; rfl)); intro gb242 hg w22 hbox hb; have n0_ := Aside0.mk (below_step (by repeat (first | (with_reducible first | exact HB.out | apply below_alloc | apply pw_below_drewN | apply below_drew1) | exact HB.out)) hb); have n1_ := Aside0.mk (hbox); have n2_ := Aside0.mk ((by rw [hg]; exact (below_size (by repeat (first | (with_reducible first | exact HB.out | apply below_alloc | apply pw_below_drewN | apply below_drew1) | exact HB.out))) : w.heap.size ≤ gb242)); have n3_ := Aside0.mk ((by rw [hg]; exact (below_size (by repeat (first | (with_reducible first | exact HB.out | apply below_alloc | apply pw_below_drewN | apply below_drew1) | exact HB.out))) : w.heap.size ≤ gb242)); clear HB; have HB := n0_; have BK242 := n1_; have GW242 := n2_; have GE242 := n3_; clear n0_ n1_ n2_ n3_; clear hb hbox hg) | ((with_reducible refine gate_dst (N := 4) rfl ?_); refine box_event ?hg (N := 4) ?hd (cs := #[.int .i64 0, .int .i64 0, .int .i64 0, .int .i64 0, .string (⟨#[]⟩ : ByteArray)]) (t := 49) ?hr ?_; (case hd => rfl); (case hg => rfl); (case hr => first | (go_simp; done) | (go_simp; rfl)); intro gb243 hg w23 hbox hb; have n0_ := Aside0.mk (blk_below (g := gb242) (o := .cells #[.int .i64 a0_0, .int .i64 a0_1, .int .i64 a0_2, .int .i64 a0_3, .string a0_4] 49 (0, 0)) (by (with_reducible repeat (first | refine blk_drewN ?_ _ | refine blk_drew ?_ | refine blk_alloc ?_ _)); exact BK242.out) hb); have n1_ := Aside0.mk (below_step (by repeat (first | (with_reducible first | exact HB.out | apply below_alloc | apply pw_below_drewN | apply below_drew1 | refine below_set ?_ GE242.out) | exact HB.out)) hb); have n2_ := Aside0.mk (hbox); have n3_ := Aside0.mk ((by rw [hg]; exact (below_size (by repeat (first | (with_reducible first | exact HB.out | apply below_alloc | apply pw_below_drewN | apply below_drew1 | refine below_set ?_ GE242.out) | exact HB.out))) : w.heap.size ≤ gb243)); have n4_ := Aside0.mk ((by rw [hg]; exact (below_size (by repeat (first | (with_reducible first | exact HB.out | apply below_alloc | apply pw_below_drewN | apply below_drew1 | refine below_set ?_ GE242.out) | exact HB.out))) : w.heap.size ≤ gb243)); have n5_ := Aside0.mk ((by rw [hg]; exact Nat.ne_of_lt (blk_lt (g := gb242) (o := .cells #[.int .i64 a0_0, .int .i64 a0_1, .int .i64 a0_2, .int .i64 a0_3, .string a0_4] 49 (0, 0)) (by (with_reducible repeat (first | refine blk_drewN ?_ _ | refine blk_drew ?_ | refine blk_alloc ?_ _)); exact BK242.out)) : gb242 ≠ gb243)); have n6_ := Aside0.mk ((by rw [hg]; exact Nat.ne_of_gt (blk_lt (g := gb242) (o := .cells #[.int .i64 a0_0, .int .i64 a0_1, .int .i64 a0_2, .int .i64 a0_3, .string a0_4] 49 (0, 0)) (by (with_reducible repeat (first | refine blk_drewN ?_ _ | refine blk_drew ?_ | refine blk_alloc ?_ _)); exact BK242.out)) : gb243 ≠ gb242)); clear BK242; clear HB; have BK242 := n0_; have HB := n1_; have BK243 := n2_; have GW243 := n3_; have GE243 := n4_; have NB242_243 := n5_; have NB243_242 := n6_; clear n0_ n1_ n2_ n3_ n4_ n5_ n6_; clear hb hbox hg; have hnb24 := NB242_243.out; have hnc24 := NB243_242.out; have hcz25_0 : w23.cell? ⟨gb242, 0, none⟩ = some (.int .i64 a0_0) := (blk_cell BK242.out 0).trans rfl; have hcz25_1 : w23.cell? ⟨gb242, 1, none⟩ = some (.int .i64 a0_1) := (blk_cell BK242.out 1).trans rfl; have hcz25_2 : w23.cell? ⟨gb242, 2, none⟩ = some (.int .i64 a0_2) := (blk_cell BK242.out 2).trans rfl; have hcz25_3 : w23.cell? ⟨gb242, 3, none⟩ = some (.int .i64 a0_3) := (blk_cell BK242.out 3).trans rfl; have hcz25_4 : w23.cell? ⟨gb242, 4, none⟩ = some (.string a0_4) := (blk_cell BK242.out 4).trans rfl; have hfz25_0 := blk_frozen BK242.out 0; have hfz25_1 := blk_frozen BK242.out 1; have hfz25_2 := blk_frozen BK242.out 2; have hfz25_3 := blk_frozen BK242.out 3; have hfz25_4 := blk_frozen BK242.out 4) | ((with_reducible refine gate_callee (f := 33) rfl ?_); refine goesL_ (some 8) rfl rfl Try.func33 (by kernel_rfl) rfl #[.agg #[.int .i64 a0_0, .int .i64 a0_1, .int .i64 a0_2, .int .i64 a0_3, .string a0_4]] rfl (by (try simp only [List.map_toArray, List.map_cons, List.map_nil]); first | done | rfl | (simp only [List.length_drop, List.length_take]; rfl)) ?_; (with_reducible refine (video_Valid.calls a0_0 a0_1 a0_2 a0_3 a0_4 false _ A3.out).mono ?_); rintro e w26 ⟨rfl, hb⟩; refine ⟨_, rfl, ?_⟩; have n0_ := Aside0.mk (blk_below (g := gb242) (o := .cells #[.int .i64 a0_0, .int .i64 a0_1, .int .i64 a0_2, .int .i64 a0_3, .string a0_4] 49 (0, 0)) (by (with_reducible repeat (first | refine blk_drewN ?_ _ | refine blk_drew ?_ | refine blk_alloc ?_ _)); exact BK242.out) hb); have n1_ := Aside0.mk (blk_below (g := gb243) (o := .cells #[.int .i64 0, .int .i64 0, .int .i64 0, .int .i64 0, .string (⟨#[]⟩ : ByteArray)] 49 (0, 0)) (by (with_reducible repeat (first | refine blk_drewN ?_ _ | refine blk_drew ?_ | refine blk_alloc ?_ _)); exact BK243.out) hb); have n2_ := Aside0.mk (below_step (by repeat (first | (with_reducible first | exact HB.out | apply below_alloc | apply pw_below_drewN | apply below_drew1 | refine below_set ?_ GE242.out | refine below_set ?_ GE243.out) | exact HB.out)) hb); clear BK242; clear BK243; clear HB; have BK242 := n0_; have BK243 := n1_; have HB := n2_; clear n0_ n1_ n2_; (try clear hb); (try clear hb2); (try clear hk); (try clear hi); have hcz27_0 : w26.cell? ⟨gb243, 0, none⟩ = some (.int .i64 0) := (blk_cell BK243.out 0).trans rfl; have hcz27_1 : w26.cell? ⟨gb243, 1, none⟩ = some (.int .i64 0) := (blk_cell BK243.out 1).trans rfl; have hcz27_2 : w26.cell? ⟨gb243, 2, none⟩ = some (.int .i64 0) := (blk_cell BK243.out 2).trans rfl; have hcz27_3 : w26.cell? ⟨gb243, 3, none⟩ = some (.int .i64 0) := (blk_cell BK243.out 3).trans rfl; have hcz27_4 : w26.cell? ⟨gb243, 4, none⟩ = some (.string (⟨#[]⟩ : ByteArray)) := (blk_cell BK243.out 4).trans rfl; have hfz27_0 := blk_frozen BK243.out 0; have hfz27_1 := blk_frozen BK243.out 1; have hfz27_2 := blk_frozen BK243.out 2; have hfz27_3 := blk_frozen BK243.out 3; have hfz27_4 := blk_frozen BK243.out 4))
   refine bodyPost_ret (results_ct rfl _ _ gb243 49 #[.int .i64 0, .int .i64 0, .int .i64 0, .int .i64 0, .string (⟨#[]⟩ : ByteArray)] (0, 0) _ rfl (by (with_reducible repeat (first | refine blk_drewN ?_ _ | refine blk_drew ?_ | refine blk_alloc ?_ _)); refine blk_put (cs := #[.int .i64 0, .int .i64 0, .int .i64 0, .int .i64 0, .string (⟨#[]⟩ : ByteArray)]) ?_ 4 _ rfl; (with_reducible repeat (first | refine blk_drewN ?_ _ | refine blk_drew ?_ | refine blk_alloc ?_ _)); refine blk_put (cs := #[.int .i64 0, .int .i64 0, .int .i64 0, .int .i64 0, .string (⟨#[]⟩ : ByteArray)]) ?_ 3 _ rfl; (with_reducible repeat (first | refine blk_drewN ?_ _ | refine blk_drew ?_ | refine blk_alloc ?_ _)); refine blk_put (cs := #[.int .i64 0, .int .i64 0, .int .i64 0, .int .i64 0, .string (⟨#[]⟩ : ByteArray)]) ?_ 2 _ rfl; (with_reducible repeat (first | refine blk_drewN ?_ _ | refine blk_drew ?_ | refine blk_alloc ?_ _)); refine blk_put (cs := #[.int .i64 0, .int .i64 0, .int .i64 0, .int .i64 0, .string (⟨#[]⟩ : ByteArray)]) ?_ 1 _ rfl; (with_reducible repeat (first | refine blk_drewN ?_ _ | refine blk_drew ?_ | refine blk_alloc ?_ _)); refine blk_put (cs := #[.int .i64 0, .int .i64 0, .int .i64 0, .int .i64 0, .string (⟨#[]⟩ : ByteArray)]) ?_ 0 _ rfl; (with_reducible repeat (first | refine blk_drewN ?_ _ | refine blk_drew ?_ | refine blk_alloc ?_ _)); exact BK243.out) Try.underlying49 rfl (by kernel_rfl)) rfl ?_
   exact ⟨by first | rfl | (simp [errW_none, errW_some] <;> rfl) | (simp [*, errW_none, errW_some] <;> rfl), by repeat (first | (with_reducible first | exact HB.out | apply below_alloc | apply pw_below_drewN | apply below_drew1 | refine below_set ?_ GE242.out | refine below_set ?_ GE243.out) | exact HB.out)⟩
end Go.Proofs.Ythbajahklnpkcaa.PA
