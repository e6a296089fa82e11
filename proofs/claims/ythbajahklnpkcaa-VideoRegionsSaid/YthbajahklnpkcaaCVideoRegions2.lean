/- VideoRegions, part 2: what the row is built on. -/
import Derived.Test.YthbajahklnpkcaaCVideoRegions1
import Derived.Deep.RegionHeld3
import Derived.Deep.AppendLies
import Derived.Deep.DeepCutAuto
import Derived.RangeFuncBox
import Derived.Shelf.RegionOpen
import Derived.OwnWalkIn
import Derived.TacticsInMore
import Derived.LoopNIn
import Derived.LoopIn
import Derived.Maps.AppendAt
import Derived.Sort.BigQuietIn
import Derived.RangeFuncCalls
namespace Go.Proofs.Ythbajahklnpkcaa.PA
open Go.RowKit Go.Shelf Go.Sort Go.Proofs.YthbajahklnpkcaaW.PrintWords Go.Proofs.YthbajahklnpkcaaW.PrintLast Go.Proofs.YthbajahklnpkcaaW.PrintMore
set_option linter.unusedVariables false
set_option linter.unusedSimpArgs false
def EncB (base : Nat) (W : World) (x : Bd) (args : Array Value) : Prop := ∃ v,args = #[.agg #[.int .i64 x.1,.int .i64 x.2.1,v]] ∧ W.ownsRow base 145 2 v x.2.2.length (fl145 x.2.2)
def intOf : Value → Int
 | .int _ x => x
 | _ => 0
theorem max_zero (k k' : IntKind) (n : Nat) : Builtin.max2 (.int k 0) (.int k' ((n : Int) - 1)) = pure (.int k ((n - 1 : Nat) : Int)) := by
 simp only [Builtin.max2,gt_iff_lt]
 have : (if (0 : Int) < (n : Int) - 1 then (n : Int) - 1 else 0) = ((n - 1 : Nat) : Int) := by split <;> omega
 rw [this]
attribute [local go_sem] max_zero ZR
set_option maxRecDepth 100000 in
set_option maxHeartbeats 8000000 in
theorem bands3_it (m : Nat) (is : Bool → Bool → Bool) (gi : Nat) (eg : ∀ args w,(callFunc gi args).run Try.prog w = .ok (.enter gi args) w) (his : IsB gi is)
 (A B : Option Addr) (cA cB : Nat) (a b : List S43) (xs ys : List Int) (X Y : Option Addr) (cX cY pa pb pf px py N bl : Nat) (w0 w : World)
 (hlx : xs.length ≤ 1000000) (hly : ys.length ≤ 1000000)
 (env : EnvAt A B cA cB a b gi xs ys X Y cX cY pa pb pf px py (bl + 1) w)
 (hN : N = w.heap.size) (hbl : bl = w0.heap.size) (hb0 : Below w0.heap.size w0 w) (hca : Kd.C k43 w0 A a.length a) (hcb : Kd.C k43 w0 B b.length b)
 (la : bl < pa) (lb : bl < pb) (lf : bl < pf) (lx : bl < px) (ly : bl < py) :
 IterQ Fence.wide m Try.prog 141 #[.pointer (some ⟨py,0,none⟩),.pointer (some ⟨px,0,none⟩),.pointer (some ⟨pf,0,none⟩),.pointer (some ⟨pa,0,none⟩),.pointer (some ⟨pb,0,none⟩)] (EncB N) (bandsOf is a b xs ys) (KtN N bl) TiB w := by
 intro l J W hK hT hY h0;have KEEP := Zb.mk (fun W' (hk : KtN N bl w W') => EnvAt.keep env hN hbl hb0 hca hcb la lb lf lx ly hk);have HN := Zb.mk (show ∀ W',KtN N bl w W' → N ≤ W'.heap.size from fun W' hk => hN ▸ hk.1);clear env hca hcb;have HK := Zb.mk hK;clear hK;have HE := Zb.mk (KEEP.out W HK.out);have cy := HE.out.by_.cell;have cx := HE.out.bx.cell;refine callsIn_wide.2 ?_
 go_enter Try.func141,Try.ntmps141
 go_wp2
 go_loopw [7,8,9,10,15] (fun s7 s8 s9 s10 s15 wr => ∃ i : Nat,i ≤ ys.length - 1 ∧ s15 = .int .i64 i ∧ J (bdN (spansOf is a b xs) ys i) wr ∧ Zb (KtN N bl w wr))
  (fun s7 s8 s9 s10 s15 wr => ys.length - (intOf s15).toNat)
 case atStart => exact ⟨0,Nat.zero_le _,rfl,h0,HK⟩
 case round =>
  obtain ⟨wo,hwo⟩ : ∃ wo,wo = wr := ⟨_,rfl⟩
  subst hwo;obtain ⟨i,hi,rfl,hJ,HKr⟩ := hrel;have HEr := Zb.mk (KEEP.out wo HKr.out)
  by_cases hlt : i < ys.length - 1
  · have hltz : (i : Int) < ((ys.length - 1 : Nat) : Int) := by omega
    obtain ⟨gy,hgy⟩ := Q4 HEr.out.ry (by omega);subst hgy;have cyr := HEr.out.by_.cell;have y0 := (XK HEr.out.ry (Q2 (show i < ys.length by omega))).1;have y1 := (XK HEr.out.ry (Q2 (show i + 1 < ys.length by omega))).1
    have b0 : (0 : Int) ≤ (i : Int) := by omega
    have b1 : (i : Int) < (ys.length : Int) := by omega
    have b2 : (0 : Int) ≤ (i : Int) + 1 := by omega
    have b3 : (i : Int) + 1 < (ys.length : Int) := by omega
    have hwi : IntKind.i64.wrap ((i : Int) + 1) = (i : Int) + 1 := (i64_w _).trans (w64 (by omega) (by omega));have ly0 : py < wo.heap.size := HEr.out.by_.lt;have ly1 : gy < wo.heap.size := World.block_lt_of_cell? _ _ y0;have hxn := JX (spansOf is a b xs) ys i;have hpre := bdN_pre (spansOf is a b xs) ys (show i < ys.length - 1 from hlt);generalize hu : ys.getD i 0 = u at y0 hxn hpre;generalize hv : ys.getD (i + 1) 0 = v at y1 hxn hpre;have HXN := Zb.mk hxn;have HPRE := Zb.mk hpre;have HU := Zb.mk hu;have HV := Zb.mk hv;clear hxn hpre hu hv
    go_wp2
    go_region_held3 (fun w' => w'.cell? ⟨py,0,none⟩ = some (.slice (some ⟨gy,0,none⟩) ys.length cY) ∧ w'.cell? ⟨gy,i,none⟩ = some (.int .i64 u) ∧ w'.cell? ⟨gy,i + 1,none⟩ = some (.int .i64 v)) (simp [go_sem,World.cell?_alloc_past, *]) (fail)
    have HX1 := (Blk.new wo #[.int .i64 u,.int .i64 v,.slice none 0 0] 142).drew;have hB1 : Below wo.heap.size wo (wo.alloc (.cells #[.int .i64 u,.int .i64 v,.slice none 0 0] 142)).drew := Zd ((Below.refl _ wo).alloc (Nat.le_refl _) _);generalize hw1 : (wo.alloc (.cells #[.int .i64 u,.int .i64 v,.slice none 0 0] 142)).drew = w1 at HX1 hB1 ⊢;clear hw1 y0 y1 cyr b2 b3 hwi;have HB1 := Zb.mk hB1;have HX1 := Zb.mk HX1;clear hB1;have HE1 := Zb.mk (HEr.out.bel HB1.out);have cx1 := HE1.out.bx.cell
    obtain ⟨p,hp⟩ : ∃ p : Int → Bool,p = fun x => is (covL a x u) (covL b x u) := ⟨_,rfl⟩
    have HSP : Zb (spansOf is a b xs u = (rowN p xs (xs.length - 1)).reverse) := ⟨by rw [hp];rfl⟩
    have HP := Zb.mk hp;clear hp
    go_wp2
    go_loopw [9,10,32] (fun s9 s10 s32 w7 => ∃ (k : Nat) (A7 : Option Addr) (c7 : Nat),k ≤ xs.length - 1 ∧ s32 = .int .i64 k ∧ Zb (Below wo.heap.size wo w7) ∧ Zb (Blk w7 wo.heap.size #[.int .i64 u,.int .i64 v,.slice A7 (rowN p xs k).length c7] 142) ∧ Zb (w7.ownsRow (wo.heap.size + 1) 145 2 (.slice A7 (rowN p xs k).length c7) (rowN p xs k).length (fl145 (rowN p xs k).reverse)))
     (fun s9 s10 s32 w7 => xs.length - (intOf s32).toNat)
    case atStart => exact ⟨0,none,0,Nat.zero_le _,rfl,HB1,HX1,⟨World.ownsRow_nil _ _ _ _⟩⟩
    case round =>
     obtain ⟨k,A7,c7,hk,rfl,HB7,HX7,HO7⟩ := hrel;have HE7 := Zb.mk (HEr.out.bel HB7.out);have hs7 := HB7.out.size
     by_cases hlt2 : k < xs.length - 1
     · have hltz2 : (k : Int) < ((xs.length - 1 : Nat) : Int) := by omega
       obtain ⟨gx,hgx⟩ := Q4 HE7.out.rx (by omega);subst hgx;have cf7 := HE7.out.bf.cell;have ca7 := HE7.out.ba.cell;have cb7 := HE7.out.bb.cell;have cx7 := HE7.out.bx.cell;have cy7 := HE7.out.by_.cell;have x0 := (XK HE7.out.rx (Q2 (show k < xs.length by omega))).1;have y0 := (XK HE7.out.ry (Q2 (show i < ys.length by omega))).1;rw [HU.out] at y0
       have e1 : (0 : Int) ≤ (k : Int) := by omega
       have e2 : (k : Int) < (xs.length : Int) := by omega
       have e3 : (0 : Int) ≤ (i : Int) := by omega
       have e4 : (i : Int) < (ys.length : Int) := by omega
       have hpk := HP.out;have hst := J0 p xs k;unfold stepR at hst;generalize hx0 : xs.getD k 0 = x0v at x0 hst
       have hpv : p x0v = is (covL a x0v u) (covL b x0v u) := by rw [hpk]
       have HST := Zb.mk hst
       have HCa := fun W' (hb : Below wr.heap.size wr W') => Lib.hid ((Q7 A cA a x0v u W' (Kd.Z5 HE7.out.ca hb)).mono (fun e w' (h : _ ∧ _) => And.intro h.1 (hb.trans (h.2.mono hb.size))))
       have HCb := fun W' (hb : Below wr.heap.size wr W') => Lib.hid ((Q7 B cB b x0v u W' (Kd.Z5 HE7.out.cb hb)).mono (fun e w' (h : _ ∧ _) => And.intro h.1 (hb.trans (h.2.mono hb.size))))
       generalize covL a x0v u = q1 at HCa hpv;generalize covL b x0v u = q2 at HCb hpv
       have HIs := fun W' (hb : Below wr.heap.size wr W') => Lib.hid ((his W' q1 q2).mono (fun e w' (h : _ ∧ _) => And.intro h.1 (hb.trans (h.2.mono hb.size))))
       clear hst hpk hx0;rw [← hpv] at HIs;clear hpv
       go_wp2
       have HC7 : ∀ w',Below wr.heap.size wr w' → w'.cell? ⟨pf,0,none⟩ = some (.func (.func gi) #[] #[]) ∧ w'.cell? ⟨pa,0,none⟩ = some (.slice A a.length cA) ∧ w'.cell? ⟨pb,0,none⟩ = some (.slice B b.length cB) ∧ w'.cell? ⟨px,0,none⟩ = some (.slice (some ⟨gx,0,none⟩) xs.length cX) ∧ w'.cell? ⟨py,0,none⟩ = some (.slice (some ⟨gy,0,none⟩) ys.length cY) ∧ w'.cell? ⟨gx,k,none⟩ = some (.int .i64 x0v) ∧ w'.cell? ⟨gy,i,none⟩ = some (.int .i64 u) := by
        intro W' hb
        have hq : ∀ (n o : Nat) (v : Value),wr.cell? ⟨n,o,none⟩ = some v → W'.cell? ⟨n,o,none⟩ = some v := fun n o v h => (hb.cell (p := ⟨n,o,none⟩) (World.block_lt_of_cell? _ _ h)).trans h
        exact ⟨hq _ _ _ cf7,hq _ _ _ ca7,hq _ _ _ cb7,hq _ _ _ cx7,hq _ _ _ cy7,hq _ _ _ x0,hq _ _ _ y0⟩
       go_region_held3 (fun w' => w'.cell? ⟨pf,0,none⟩ = some (.func (.func gi) #[] #[]) ∧ w'.cell? ⟨pa,0,none⟩ = some (.slice A a.length cA) ∧ w'.cell? ⟨pb,0,none⟩ = some (.slice B b.length cB) ∧ w'.cell? ⟨px,0,none⟩ = some (.slice (some ⟨gx,0,none⟩) xs.length cX) ∧ w'.cell? ⟨py,0,none⟩ = some (.slice (some ⟨gy,0,none⟩) ys.length cY) ∧ w'.cell? ⟨gx,k,none⟩ = some (.int .i64 x0v) ∧ w'.cell? ⟨gy,i,none⟩ = some (.int .i64 u)) (first | exact HC7 _ (Zd (Below.refl _ _)) | exact HC7 _ h3b | exact HC7 _ h2b | exact HC7 _ h1b)
        (first
         | (go_at_call 77;first
          | (refine (HCa _ ?hb).out.mono ?_;(case hb => first | exact h2b | exact Zd (Below.refl _ _) | exact Below.refl _ _);rintro e w' ⟨rfl,h1b⟩)
          | (refine (HCb _ ?hb).out.mono ?_;(case hb => first | exact h1b | exact Zd (Below.refl _ _) | exact Below.refl _ _);rintro e w' ⟨rfl,h2b⟩))
         | (go_at_fn gi;refine (HIs _ ?hb).out.mono ?_;(case hb => first | exact h2b | exact h1b);rintro e w' ⟨rfl,h3b⟩))
       all_goals
        have HB9 := Zb.mk (HB7.out.trans (h3b.mono hs7));have HX9 := Zb.mk (HX7.out.X5 h3b);have HO9 := Zb.mk (XI HO7.out h3b);have hgx := (h3b.cell (p := ⟨gx,k,none⟩) (World.block_lt_of_cell? _ _ x0)).trans x0;have HE9 := Zb.mk (HE7.out.bel h3b);clear h1b h2b h3b cf7 ca7 cb7 cx7 cy7 x0 y0 HC7 HCa HCb HIs HX7 HO7 HE7 HB7;generalize p x0v = t at HST ⊢
        cases t with
        | false =>
         have hs := HST.out;simp only [addR,Bool.false_eq_true,if_false] at hs
         go_wp2
         go_roundw
         case rel => exact ⟨k + 1,A7,c7,by omega,by go_num,HB9,by rw [hs];exact HX9,by rw [hs];exact HO9⟩
         case measure => simp [intOf];omega
        | true =>
         have x1 := (XK HE9.out.rx (Q2 (show k + 1 < xs.length by omega))).1;have cx9 := HE9.out.bx.cell
         have e5 : (0 : Int) ≤ (k : Int) + 1 := by omega
         have e6 : (k : Int) + 1 < (xs.length : Int) := by omega
         have hwk : IntKind.i64.wrap ((k : Int) + 1) = (k : Int) + 1 := (i64_w _).trans (w64 (by omega) (by omega));have lx9 := HE9.out.bx.lt;have lg9 := World.block_lt_of_cell? _ _ x1;have hs := HST.out;generalize hx1 : xs.getD (k + 1) 0 = x1v at x1 hs;have HS := Zb.mk hs;clear hs HST;generalize hacc : rowN p xs k = acc at HX9 HO9 HS
         obtain ⟨nn,hnn⟩ : ∃ nn,acc.length = nn := ⟨_,rfl⟩
         obtain ⟨fs,hfs⟩ : ∃ fs,fl145 acc.reverse = fs := ⟨_,rfl⟩
         rw [hnn] at HX9 HO9;rw [hfs] at HO9;have z2 := HX9.out.cell 2 (v := .slice A7 nn c7) rfl;have f2 := HX9.out.frozen 2
         have hal : nn ≤ 1000000 := by
          rw [← hnn,← hacc];exact Nat.le_trans (Ye p xs k) (by omega)
         have HF := Zb.mk hfs;have HNN := Zb.mk hnn;clear hx1 hacc hfs hnn;have hs9 := HB9.out.size;obtain ⟨i5,hi5,hz50,hz51,hz52⟩ := info_parts info145
         have h63 : nn + 1 ≤ maxLen := by unfold maxLen;omega
         have hbytes : (nn + 1) * 16 ≤ 140737488355328 := by omega
         have hone : ∀ u ∈ [Value.int .i64 x0v,Value.int .i64 x1v],u.oneCell' = true := by intro u hu;simp only [List.mem_cons,List.not_mem_nil,or_false] at hu;rcases hu with rfl | rfl <;> rfl
         have lxo : wo.heap.size < w'.heap.size := HX9.out.lt;have lgo : gx < wo.heap.size := (Xm HEr.out.rx (k := gx) rfl).2;have lpo : px < wo.heap.size := HEr.out.bx.lt
         have HC4 : ∀ W',Below w'.heap.size w' W' → W'.cell? ⟨px,0,none⟩ = some (.slice (some ⟨gx,0,none⟩) xs.length cX) ∧ W'.cell? ⟨gx,k,none⟩ = some (.int .i64 x0v) ∧ W'.cell? ⟨gx,k + 1,none⟩ = some (.int .i64 x1v) := by
          intro W' hb
          have hq : ∀ (n o : Nat) (v : Value),w'.cell? ⟨n,o,none⟩ = some v → W'.cell? ⟨n,o,none⟩ = some v := fun n o v h => (hb.cell (p := ⟨n,o,none⟩) (World.block_lt_of_cell? _ _ h)).trans h
          exact ⟨hq _ _ _ cx9,hq _ _ _ hgx,hq _ _ _ x1⟩
         have HG4 : ∀ W1 W',Below w'.heap.size w' W1 → W1.grownBy W' (Value.slice A7 nn c7).ownBlock → W'.cell? ⟨px,0,none⟩ = some (.slice (some ⟨gx,0,none⟩) xs.length cX) ∧ W'.cell? ⟨gx,k,none⟩ = some (.int .i64 x0v) ∧ W'.cell? ⟨gx,k + 1,none⟩ = some (.int .i64 x1v) := by
          intro W1 W' hb hg;obtain ⟨j2,j3,j4⟩ := HC4 W1 hb
          have hne : ∀ n : Nat,n ≤ wo.heap.size → some n ≠ (Value.slice A7 nn c7).ownBlock := fun n hn e => by have := (Xm HO9.out e.symm).1;omega
          have hq : ∀ (n o : Nat) (v : Value),n ≤ wo.heap.size → W1.cell? ⟨n,o,none⟩ = some v → W'.cell? ⟨n,o,none⟩ = some v := fun n o v hn h => (World.cell?_of_block (hg.block n (World.block_lt_of_cell? _ _ h) (hne n hn))).trans h
          exact ⟨hq _ _ _ (by omega) j2,hq _ _ _ (by omega) j3,hq _ _ _ (by omega) j4⟩
         have HT4 : ∀ W1 W' vv,Below w'.heap.size w' W1 → W1.grownBy W' (Value.slice A7 nn c7).ownBlock → (W'.setCell ⟨wo.heap.size,2,none⟩ vv).cell? ⟨px,0,none⟩ = some (.slice (some ⟨gx,0,none⟩) xs.length cX) ∧ (W'.setCell ⟨wo.heap.size,2,none⟩ vv).cell? ⟨gx,k,none⟩ = some (.int .i64 x0v) ∧ (W'.setCell ⟨wo.heap.size,2,none⟩ vv).cell? ⟨gx,k + 1,none⟩ = some (.int .i64 x1v) := by
          intro W1 W' vv hb hg;obtain ⟨j2,j3,j4⟩ := HG4 W1 W' hb hg
          have hq : ∀ (n o : Nat) (v : Value),n < wo.heap.size → W'.cell? ⟨n,o,none⟩ = some v → (W'.setCell ⟨wo.heap.size,2,none⟩ vv).cell? ⟨n,o,none⟩ = some v := fun n o v hn h => (World.cell?_of_block (Below.heap_setCell W' ⟨wo.heap.size,2,none⟩ vv n (by simp;omega))).trans h
          exact ⟨hq _ _ _ lpo j2,hq _ _ _ lgo j3,hq _ _ _ lgo j4⟩
         have hz2 : ∀ n,(w'.drewN n).cell? ⟨wo.heap.size,2,none⟩ = some (.slice A7 nn c7) := fun n => z2
         have hz3 : ∀ n o,((w'.drewN n).alloc o).cell? ⟨wo.heap.size,2,none⟩ = some (.slice A7 nn c7) := fun n o => (World.cell?_alloc_lt _ _ _ lxo).trans z2
         have HK4 : ∀ W1 W',Below w'.heap.size w' W1 → W1.grownBy W' (Value.slice A7 nn c7).ownBlock → Blk W' wo.heap.size #[.int .i64 u,.int .i64 v,.slice A7 nn c7] 142 := by
          intro W1 W' hb hg;have hx := HX9.out.below hb lxo;exact hx.same (hg.block _ hx.lt (fun e => by have := (Xm HO9.out e.symm).1;omega))
         by_cases hn0 : nn = 0
         · subst hn0
           have hnil : acc = [] := List.length_eq_zero_iff.1 HNN.out
           go_wp2
           repeat (go_quiet (fail);try go_wp2)
           refine wp_region_held_drew (S := (fun W' => W'.cell? ⟨px,0,none⟩ = some (.slice (some ⟨gx,0,none⟩) xs.length cX) ∧ W'.cell? ⟨gx,k,none⟩ = some (.int .i64 x0v) ∧ W'.cell? ⟨gx,k + 1,none⟩ = some (.int .i64 x1v))) (by kernel_rfl) ?_ (fun hHeld => ?_)
           · try dsimp only
             first | exact HC4 _ (Zd (Below.refl _ _)) | exact HC4 _ (Zd (Za (Below.refl _ _) _)) | exact HC4 _ (Za (Below.refl _ _) _) | exact HC4 _ ((Za (Below.refl _ _) _).alloc (Nat.le_refl _) _) | exact HG4 _ _ ((Za (Below.refl _ _) _).alloc (Nat.le_refl _) _) hgrow5 | exact HT4 _ _ _ ((Za (Below.refl _ _) _).alloc (Nat.le_refl _) _) hgrow5
           refine wpAnyH_take (i := 0) (v := ?_) rfl (by kernel_rfl) (by kernel_rfl) (by kernel_rfl) (fun _ _ _ h => h) (Or.inl ⟨by rfl,?_⟩) (by assumption) ?_;rotate_left
           · intro w hSw
             try dsimp only at hSw
             first | (go_simp;done) | (go_simp;with_reducible rfl)
           try simp only [Act.put,V9,VA,VB]
           refine wpAnyH_take (i := 2) (v := ?_) rfl (by kernel_rfl) (by kernel_rfl) (by kernel_rfl) (fun _ _ _ h => h) (Or.inl ⟨by rfl,?_⟩) (by assumption) ?_;rotate_left
           · intro w hSw
             try dsimp only at hSw
             first | (go_simp;done) | (go_simp;with_reducible rfl)
           try simp only [Act.put,V9,VA,VB]
           refine wpAnyH_take (i := 3) (v := ?_) rfl (by kernel_rfl) (by kernel_rfl) (by kernel_rfl) (fun _ _ _ h => h) (Or.inl ⟨by rfl,?_⟩) (by assumption) ?_;rotate_left
           · intro w hSw
             try dsimp only at hSw
             first | (go_simp;done) | (go_simp;with_reducible rfl)
           try simp only [Act.put,V9,VA,VB]
           refine wpAnyH_take (i := 4) (v := ?_) rfl (by kernel_rfl) (by kernel_rfl) (by kernel_rfl) (fun _ _ _ h => h) (Or.inl ⟨by rfl,?_⟩) (by assumption) ?_;rotate_left
           · intro w hSw
             try dsimp only at hSw
             first | (go_simp;done) | (go_simp;with_reducible rfl)
           try simp only [Act.put,V9,VA,VB]
           refine wpAnyH_take (i := 5) (v := ?_) rfl (by kernel_rfl) (by kernel_rfl) (by kernel_rfl) (fun _ _ _ h => h) (Or.inl ⟨by rfl,?_⟩) (by assumption) ?_;rotate_left
           · intro w hSw
             try dsimp only at hSw
             first | (go_simp;done) | (go_simp;with_reducible rfl)
           try simp only [Act.put,V9,VA,VB]
           refine wpAnyH_take (i := 6) (v := ?_) rfl (by kernel_rfl) (by kernel_rfl) (by kernel_rfl) (fun _ _ _ h => h) (Or.inl ⟨by rfl,?_⟩) (by assumption) ?_;rotate_left
           · intro w hSw
             try dsimp only at hSw
             first | (go_simp;done) | (go_simp;with_reducible rfl)
           try simp only [Act.put,V9,VA,VB]
           refine wpAnyH_take (i := 7) (v := ?_) rfl (by kernel_rfl) (by kernel_rfl) (by kernel_rfl) (fun _ _ _ h => h) (Or.inl ⟨by rfl,?_⟩) (by assumption) ?_;rotate_left
           · intro w hSw
             try dsimp only at hSw
             first | (go_simp;done) | (go_simp;with_reducible rfl)
           try simp only [Act.put,V9,VA,VB]
           refine wpAnyH_take (i := 8) (v := ?_) rfl (by kernel_rfl) (by kernel_rfl) (by kernel_rfl) (fun _ _ _ h => h) (Or.inl ⟨by rfl,?_⟩) (by assumption) ?_;rotate_left
           · intro w hSw
             try dsimp only at hSw
             first | (go_simp;done) | (go_simp;with_reducible rfl)
           try simp only [Act.put,V9,VA,VB]
           refine wpAnyH_take (i := 9) (v := ?_) rfl (by kernel_rfl) (by kernel_rfl) (by kernel_rfl) (fun _ _ _ h => h) (Or.inl ⟨by rfl,?_⟩) (by assumption) ?_;rotate_left
           · intro w hSw
             try dsimp only at hSw
             first | (go_simp;done) | (go_simp;with_reducible rfl)
           try simp only [Act.put,V9,VA,VB]
           refine wpAnyH_take (i := 10) (v := ?_) rfl (by kernel_rfl) (by kernel_rfl) (by kernel_rfl) (fun _ _ _ h => h) (Or.inl ⟨by rfl,?_⟩) (by assumption) ?_;rotate_left
           · intro w hSw
             try dsimp only at hSw
             first | (go_simp;done) | (go_simp;with_reducible rfl)
           try simp only [Act.put,V9,VA,VB]
           refine wpAnyH_take (i := 11) (v := ?_) rfl (by kernel_rfl) (by kernel_rfl) (by kernel_rfl) (fun _ _ _ h => h) (Or.inl ⟨by rfl,?_⟩) (by assumption) ?_;rotate_left
           · intro w hSw
             try dsimp only at hSw
             first | (go_simp;done) | (go_simp;with_reducible rfl)
           try simp only [Act.put,V9,VA,VB]
           refine wpAnyH_ready (rs := [1,12]) (by kernel_rfl) (by simp) ?_;refine AllReadyH.cons rfl (fun K hK => ?_) (AllReadyH.cons rfl (fun K hK => ?_) AllReadyH.nil)
           · go_simp
             refine hK.out _ _ ?_ (fun hHeld => ?_)
             · try dsimp only
               first | exact HC4 _ (Zd (Below.refl _ _)) | exact HC4 _ (Zd (Za (Below.refl _ _) _)) | exact HC4 _ (Za (Below.refl _ _) _) | exact HC4 _ ((Za (Below.refl _ _) _).alloc (Nat.le_refl _) _) | exact HG4 _ _ ((Za (Below.refl _ _) _).alloc (Nat.le_refl _) _) hgrow5 | exact HT4 _ _ _ ((Za (Below.refl _ _) _).alloc (Nat.le_refl _) _) hgrow5
             clear hK K
             try simp only [Act.put,V9,VA,VB]
             refine wpAnyH_ready (rs := [12]) (by kernel_rfl) (by simp) ?_;refine AllReadyH.cons rfl (fun K hK => ?_) AllReadyH.nil;go_simp;refine hK.out _ _ ?_ (fun hHeld => ?_)
             · try dsimp only
               first | exact HC4 _ (Zd (Below.refl _ _)) | exact HC4 _ (Zd (Za (Below.refl _ _) _)) | exact HC4 _ (Za (Below.refl _ _) _) | exact HC4 _ ((Za (Below.refl _ _) _).alloc (Nat.le_refl _) _) | exact HG4 _ _ ((Za (Below.refl _ _) _).alloc (Nat.le_refl _) _) hgrow5 | exact HT4 _ _ _ ((Za (Below.refl _ _) _).alloc (Nat.le_refl _) _) hgrow5
             clear hK K
             try simp only [Act.put,V9,VA,VB]
             refine wpAnyH_ready (rs := [13]) (by kernel_rfl) (by simp) ?_;refine AllReadyH.cons rfl (fun K hK => ?_) AllReadyH.nil
             (refine step_append_lies _ (by rfl) _ _ _ (by rfl) (wo.heap.size + 1) 145 i5 (.agg #[.int .i64 0,.int .i64 0]) 2 16 Try.underlying140 hi5 hz50 hz51 hz52 rfl (by omega) (.slice A7 0 c7) 0 fs (by rfl) (HO9.out.alloc _) ⟨w'.heap.size,0,none⟩ 1 1 [.int .i64 x0v,.int .i64 x1v] (by rfl) (by rfl) (news2 _ _ _ _ _ (World.alloc_heap_new _ _)) hone (by omega) h63 hbytes (by simp;omega) (w'.heap.size + 1) (by simp) ?_;intro g5 cap5 w5 hown5 hgrow5 hat5 hlt5;have hx5 := HK4 _ _ ((Za (Below.refl _ _) _).alloc (Nat.le_refl _) _) hgrow5;have z5 := hx5.cell 2 (v := .slice A7 0 c7) rfl;have f5 := hx5.frozen 2)
             refine hK.out _ _ ?_ (fun hHeld => ?_)
             · try dsimp only
               first | exact HC4 _ (Zd (Below.refl _ _)) | exact HC4 _ (Zd (Za (Below.refl _ _) _)) | exact HC4 _ (Za (Below.refl _ _) _) | exact HC4 _ ((Za (Below.refl _ _) _).alloc (Nat.le_refl _) _) | exact HG4 _ _ ((Za (Below.refl _ _) _).alloc (Nat.le_refl _) _) hgrow5 | exact HT4 _ _ _ ((Za (Below.refl _ _) _).alloc (Nat.le_refl _) _) hgrow5
             clear hK K
             try simp only [Act.put,V9,VA,VB]
             refine wpAnyH_take (i := 14) (v := ?_) rfl (by kernel_rfl) (by kernel_rfl) (by kernel_rfl) (fun _ _ _ h => h) (Or.inl ⟨by rfl,?_⟩) (by assumption) ?_;rotate_left
             · intro w hSw
               try dsimp only at hSw
               first | (go_simp;done) | (go_simp;with_reducible rfl)
             try simp only [Act.put,V9,VA,VB]
             refine wpAnyH_ready (rs := [15]) (by kernel_rfl) (by simp) ?_;refine AllReadyH.cons rfl (fun K hK => ?_) AllReadyH.nil;go_simp;refine hK.out _ _ ?_ (fun hHeld => ?_)
             · try dsimp only
               first | exact HC4 _ (Zd (Below.refl _ _)) | exact HC4 _ (Zd (Za (Below.refl _ _) _)) | exact HC4 _ (Za (Below.refl _ _) _) | exact HC4 _ ((Za (Below.refl _ _) _).alloc (Nat.le_refl _) _) | exact HG4 _ _ ((Za (Below.refl _ _) _).alloc (Nat.le_refl _) _) hgrow5 | exact HT4 _ _ _ ((Za (Below.refl _ _) _).alloc (Nat.le_refl _) _) hgrow5
             clear hK K
             try simp only [Act.put,V9,VA,VB]
             refine wpAnyH_done (by kernel_rfl) ?_ _
             have hadd : rowN p xs (k + 1) = (x0v,x1v) :: acc := by rw [HS.out,hnil];rfl
             have hlen : (rowN p xs (k + 1)).length = 0 + 1 := by rw [hadd,List.length_cons,HNN.out]
             have hfl : fl145 (rowN p xs (k + 1)).reverse = fs ++ [.int .i64 x0v,.int .i64 x1v] := by rw [hadd,List.reverse_cons,XX,HF.out]
             have hge5 := (Xm hown5 (k := g5) rfl).1
             go_wp2
             go_roundw
             case measure => simp [intOf];omega
             case rel =>
              refine ⟨k + 1,some ⟨g5,0,none⟩,cap5,by omega,by go_num,⟨?_⟩,⟨?_⟩,⟨?_⟩⟩
              · exact ((X3 ((Za HB9.out _).alloc (Nat.le_trans HB9.out.size (Nat.le_refl _)) _) (by have := HB9.out.size;simp;omega) hgrow5 (fun kk hk => by have := (Xm HO9.out hk).1;omega))).setCell (p := ⟨wo.heap.size,2,none⟩) (Nat.le_refl _) _
              · rw [hlen];exact hx5.set 2 _
              · rw [hlen,hfl]
                refine Qa hown5 (fun kk hk => Below.heap_setCell w5 ⟨wo.heap.size,2,none⟩ _ kk ?_);have := (Xm hown5 hk).1;show kk ≠ wo.heap.size;omega
           · go_simp
             refine hK.out _ _ ?_ (fun hHeld => ?_)
             · try dsimp only
               first | exact HC4 _ (Zd (Below.refl _ _)) | exact HC4 _ (Zd (Za (Below.refl _ _) _)) | exact HC4 _ (Za (Below.refl _ _) _) | exact HC4 _ ((Za (Below.refl _ _) _).alloc (Nat.le_refl _) _) | exact HG4 _ _ ((Za (Below.refl _ _) _).alloc (Nat.le_refl _) _) hgrow5 | exact HT4 _ _ _ ((Za (Below.refl _ _) _).alloc (Nat.le_refl _) _) hgrow5
             clear hK K
             try simp only [Act.put,V9,VA,VB]
             refine wpAnyH_ready (rs := [1]) (by kernel_rfl) (by simp) ?_;refine AllReadyH.cons rfl (fun K hK => ?_) AllReadyH.nil;go_simp;refine hK.out _ _ ?_ (fun hHeld => ?_)
             · try dsimp only
               first | exact HC4 _ (Zd (Below.refl _ _)) | exact HC4 _ (Zd (Za (Below.refl _ _) _)) | exact HC4 _ (Za (Below.refl _ _) _) | exact HC4 _ ((Za (Below.refl _ _) _).alloc (Nat.le_refl _) _) | exact HG4 _ _ ((Za (Below.refl _ _) _).alloc (Nat.le_refl _) _) hgrow5 | exact HT4 _ _ _ ((Za (Below.refl _ _) _).alloc (Nat.le_refl _) _) hgrow5
             clear hK K
             try simp only [Act.put,V9,VA,VB]
             refine wpAnyH_ready (rs := [13]) (by kernel_rfl) (by simp) ?_;refine AllReadyH.cons rfl (fun K hK => ?_) AllReadyH.nil
             (refine step_append_lies _ (by rfl) _ _ _ (by rfl) (wo.heap.size + 1) 145 i5 (.agg #[.int .i64 0,.int .i64 0]) 2 16 Try.underlying140 hi5 hz50 hz51 hz52 rfl (by omega) (.slice A7 0 c7) 0 fs (by rfl) (HO9.out.alloc _) ⟨w'.heap.size,0,none⟩ 1 1 [.int .i64 x0v,.int .i64 x1v] (by rfl) (by rfl) (news2 _ _ _ _ _ (World.alloc_heap_new _ _)) hone (by omega) h63 hbytes (by simp;omega) (w'.heap.size + 1) (by simp) ?_;intro g5 cap5 w5 hown5 hgrow5 hat5 hlt5;have hx5 := HK4 _ _ ((Za (Below.refl _ _) _).alloc (Nat.le_refl _) _) hgrow5;have z5 := hx5.cell 2 (v := .slice A7 0 c7) rfl;have f5 := hx5.frozen 2)
             refine hK.out _ _ ?_ (fun hHeld => ?_)
             · try dsimp only
               first | exact HC4 _ (Zd (Below.refl _ _)) | exact HC4 _ (Zd (Za (Below.refl _ _) _)) | exact HC4 _ (Za (Below.refl _ _) _) | exact HC4 _ ((Za (Below.refl _ _) _).alloc (Nat.le_refl _) _) | exact HG4 _ _ ((Za (Below.refl _ _) _).alloc (Nat.le_refl _) _) hgrow5 | exact HT4 _ _ _ ((Za (Below.refl _ _) _).alloc (Nat.le_refl _) _) hgrow5
             clear hK K
             try simp only [Act.put,V9,VA,VB]
             refine wpAnyH_take (i := 14) (v := ?_) rfl (by kernel_rfl) (by kernel_rfl) (by kernel_rfl) (fun _ _ _ h => h) (Or.inl ⟨by rfl,?_⟩) (by assumption) ?_;rotate_left
             · intro w hSw
               try dsimp only at hSw
               first | (go_simp;done) | (go_simp;with_reducible rfl)
             try simp only [Act.put,V9,VA,VB]
             refine wpAnyH_ready (rs := [15]) (by kernel_rfl) (by simp) ?_;refine AllReadyH.cons rfl (fun K hK => ?_) AllReadyH.nil;go_simp;refine hK.out _ _ ?_ (fun hHeld => ?_)
             · try dsimp only
               first | exact HC4 _ (Zd (Below.refl _ _)) | exact HC4 _ (Zd (Za (Below.refl _ _) _)) | exact HC4 _ (Za (Below.refl _ _) _) | exact HC4 _ ((Za (Below.refl _ _) _).alloc (Nat.le_refl _) _) | exact HG4 _ _ ((Za (Below.refl _ _) _).alloc (Nat.le_refl _) _) hgrow5 | exact HT4 _ _ _ ((Za (Below.refl _ _) _).alloc (Nat.le_refl _) _) hgrow5
             clear hK K
             try simp only [Act.put,V9,VA,VB]
             refine wpAnyH_done (by kernel_rfl) ?_ _
             have hadd : rowN p xs (k + 1) = (x0v,x1v) :: acc := by rw [HS.out,hnil];rfl
             have hlen : (rowN p xs (k + 1)).length = 0 + 1 := by rw [hadd,List.length_cons,HNN.out]
             have hfl : fl145 (rowN p xs (k + 1)).reverse = fs ++ [.int .i64 x0v,.int .i64 x1v] := by rw [hadd,List.reverse_cons,XX,HF.out]
             have hge5 := (Xm hown5 (k := g5) rfl).1
             go_wp2
             go_roundw
             case measure => simp [intOf];omega
             case rel =>
              refine ⟨k + 1,some ⟨g5,0,none⟩,cap5,by omega,by go_num,⟨?_⟩,⟨?_⟩,⟨?_⟩⟩
              · exact ((X3 ((Za HB9.out _).alloc (Nat.le_trans HB9.out.size (Nat.le_refl _)) _) (by have := HB9.out.size;simp;omega) hgrow5 (fun kk hk => by have := (Xm HO9.out hk).1;omega))).setCell (p := ⟨wo.heap.size,2,none⟩) (Nat.le_refl _) _
              · rw [hlen];exact hx5.set 2 _
              · rw [hlen,hfl]
                refine Qa hown5 (fun kk hk => Below.heap_setCell w5 ⟨wo.heap.size,2,none⟩ _ kk ?_);have := (Xm hown5 hk).1;show kk ≠ wo.heap.size;omega
         · obtain ⟨rn,hrn⟩ : ∃ rn,nn = rn + 1 := ⟨nn - 1,by omega⟩
           subst hrn
           obtain ⟨qs,r,hqr⟩ : ∃ qs r,acc = qs :: r := by
            cases acc with
            | nil => have := HNN.out;simp at this
            | cons q r => exact ⟨q,r,rfl⟩
           have hrl : r.length = rn := by have := HNN.out;rw [hqr] at this;simpa using this
           have hrev : acc.reverse = r.reverse ++ [qs] := by rw [hqr];simp
           have hlast : fs[rn * 2 + 1]? = some (.int .i64 qs.2) := by
            have := fl145_last r.reverse qs;rw [List.length_reverse,hrl] at this;rw [← HF.out,hrev];exact this
           obtain ⟨g7,hg7⟩ := Q4 HO9.out (by omega);subst hg7;obtain ⟨zl,fl⟩ := XK HO9.out hlast;have hg7o := (Xm HO9.out (k := g7) rfl).1;have hadd0 := HS.out;rw [hqr] at hadd0;obtain ⟨qa,qb⟩ := qs;have HQ := Zb.mk hqr;have HRL := Zb.mk hrl;have HRV := Zb.mk hrev;clear hqr hrl hrev hlast;simp only [addR,if_true] at hadd0;simp only at zl
           by_cases hq : qb = x0v
           · have hqb : (qb == x0v) = true := by simpa using hq
             rw [if_pos hq] at hadd0;have HA0 := Zb.mk hadd0;clear hadd0
             have jn0 : (0 : Int) ≤ (rn : Int) := by omega
             have jn1 : (rn : Int) < ((rn + 1 : Nat) : Int) := by omega
             have jn2 : (rn : Int) < (rn : Int) + 1 := by omega
             have jn3 : rn < rn + 1 := by omega
             have HP4 : ∀ W' vv,Below w'.heap.size w' W' → (W'.setCell ⟨g7,rn * 2 + 1,none⟩ vv).cell? ⟨wo.heap.size,2,none⟩ = some (.slice (some ⟨g7,0,none⟩) (rn + 1) c7) ∧ (W'.setCell ⟨g7,rn * 2 + 1,none⟩ vv).cell? ⟨px,0,none⟩ = some (.slice (some ⟨gx,0,none⟩) xs.length cX) ∧ (W'.setCell ⟨g7,rn * 2 + 1,none⟩ vv).cell? ⟨gx,k + 1,none⟩ = some (.int .i64 x1v) := by
              intro W' vv hb
              have hq : ∀ (n o : Nat) (v : Value),n ≠ g7 → w'.cell? ⟨n,o,none⟩ = some v → (W'.setCell ⟨g7,rn * 2 + 1,none⟩ vv).cell? ⟨n,o,none⟩ = some v := fun n o v hn h => (World.cell?_of_block (Below.heap_setCell W' ⟨g7,rn * 2 + 1,none⟩ vv n hn)).trans ((hb.cell (p := ⟨n,o,none⟩) (World.block_lt_of_cell? _ _ h)).trans h)
              exact ⟨hq _ _ _ (by omega) z2,hq _ _ _ (by omega) cx9,hq _ _ _ (by omega) x1⟩
             go_wp2
             repeat (go_quiet (fail);try go_wp2)
             go_region_held3 (fun W' => W'.cell? ⟨wo.heap.size,2,none⟩ = some (.slice (some ⟨g7,0,none⟩) (rn + 1) c7) ∧ W'.cell? ⟨px,0,none⟩ = some (.slice (some ⟨gx,0,none⟩) xs.length cX) ∧ W'.cell? ⟨gx,k + 1,none⟩ = some (.int .i64 x1v))
              (first | exact ⟨z2,cx9,x1⟩ | exact HP4 _ _ (Za (Below.refl _ _) _) | exact HP4 _ _ (Zd (Za (Below.refl _ _) _)))
              (fail)
             all_goals
              have hadd : rowN p xs (k + 1) = (qa,x1v) :: r := HA0.out
              have hlen : (rowN p xs (k + 1)).length = rn + 1 := by rw [hadd,List.length_cons,HRL.out]
              have hfl : fl145 (rowN p xs (k + 1)).reverse = fs.set (rn * 2 + 1) (.int .i64 x1v) := by
               have h1 := fl145_set r.reverse (qa,qb) x1v;rw [List.length_reverse,HRL.out] at h1;rw [hadd,List.reverse_cons,← h1,← HRV.out,HF.out]
              go_wp2
              go_roundw
              case measure => simp [intOf];omega
              case rel =>
               refine ⟨k + 1,some ⟨g7,0,none⟩,c7,by omega,by go_num,⟨?_⟩,⟨?_⟩,⟨?_⟩⟩
               · exact (Za HB9.out _).setCell (p := ⟨g7,rn * 2 + 1,none⟩) (by show wo.heap.size ≤ g7;omega) _
               · rw [hlen]
                 exact (HX9.out.drewN _).other (a := ⟨g7,rn * 2 + 1,none⟩) _ (by show wo.heap.size ≠ g7;omega)
               · rw [hlen,hfl]
                 exact Vs HO9.out _ _
           · have hqb : (qb == x0v) = false := by simpa using hq
             rw [if_neg hq] at hadd0;have HA0 := Zb.mk hadd0;clear hadd0
             go_wp2
             repeat (go_quiet (fail);try go_wp2)
             refine wp_region_held_drew (S := (fun W' => W'.cell? ⟨px,0,none⟩ = some (.slice (some ⟨gx,0,none⟩) xs.length cX) ∧ W'.cell? ⟨gx,k,none⟩ = some (.int .i64 x0v) ∧ W'.cell? ⟨gx,k + 1,none⟩ = some (.int .i64 x1v))) (by kernel_rfl) ?_ (fun hHeld => ?_)
             · try dsimp only
               first | exact HC4 _ (Zd (Below.refl _ _)) | exact HC4 _ (Zd (Za (Below.refl _ _) _)) | exact HC4 _ (Za (Below.refl _ _) _) | exact HC4 _ ((Za (Below.refl _ _) _).alloc (Nat.le_refl _) _) | exact HG4 _ _ ((Za (Below.refl _ _) _).alloc (Nat.le_refl _) _) hgrow5 | exact HT4 _ _ _ ((Za (Below.refl _ _) _).alloc (Nat.le_refl _) _) hgrow5
             refine wpAnyH_take (i := 0) (v := ?_) rfl (by kernel_rfl) (by kernel_rfl) (by kernel_rfl) (fun _ _ _ h => h) (Or.inl ⟨by rfl,?_⟩) (by assumption) ?_;rotate_left
             · intro w hSw
               try dsimp only at hSw
               first | (go_simp;done) | (go_simp;with_reducible rfl)
             try simp only [Act.put,V9,VA,VB]
             refine wpAnyH_take (i := 2) (v := ?_) rfl (by kernel_rfl) (by kernel_rfl) (by kernel_rfl) (fun _ _ _ h => h) (Or.inl ⟨by rfl,?_⟩) (by assumption) ?_;rotate_left
             · intro w hSw
               try dsimp only at hSw
               first | (go_simp;done) | (go_simp;with_reducible rfl)
             try simp only [Act.put,V9,VA,VB]
             refine wpAnyH_take (i := 3) (v := ?_) rfl (by kernel_rfl) (by kernel_rfl) (by kernel_rfl) (fun _ _ _ h => h) (Or.inl ⟨by rfl,?_⟩) (by assumption) ?_;rotate_left
             · intro w hSw
               try dsimp only at hSw
               first | (go_simp;done) | (go_simp;with_reducible rfl)
             try simp only [Act.put,V9,VA,VB]
             refine wpAnyH_take (i := 4) (v := ?_) rfl (by kernel_rfl) (by kernel_rfl) (by kernel_rfl) (fun _ _ _ h => h) (Or.inl ⟨by rfl,?_⟩) (by assumption) ?_;rotate_left
             · intro w hSw
               try dsimp only at hSw
               first | (go_simp;done) | (go_simp;with_reducible rfl)
             try simp only [Act.put,V9,VA,VB]
             refine wpAnyH_take (i := 5) (v := ?_) rfl (by kernel_rfl) (by kernel_rfl) (by kernel_rfl) (fun _ _ _ h => h) (Or.inl ⟨by rfl,?_⟩) (by assumption) ?_;rotate_left
             · intro w hSw
               try dsimp only at hSw
               first | (go_simp;done) | (go_simp;with_reducible rfl)
             try simp only [Act.put,V9,VA,VB]
             refine wpAnyH_take (i := 6) (v := ?_) rfl (by kernel_rfl) (by kernel_rfl) (by kernel_rfl) (fun _ _ _ h => h) (Or.inl ⟨by rfl,?_⟩) (by assumption) ?_;rotate_left
             · intro w hSw
               try dsimp only at hSw
               first | (go_simp;done) | (go_simp;with_reducible rfl)
             try simp only [Act.put,V9,VA,VB]
             refine wpAnyH_take (i := 7) (v := ?_) rfl (by kernel_rfl) (by kernel_rfl) (by kernel_rfl) (fun _ _ _ h => h) (Or.inl ⟨by rfl,?_⟩) (by assumption) ?_;rotate_left
             · intro w hSw
               try dsimp only at hSw
               first | (go_simp;done) | (go_simp;with_reducible rfl)
             try simp only [Act.put,V9,VA,VB]
             refine wpAnyH_take (i := 8) (v := ?_) rfl (by kernel_rfl) (by kernel_rfl) (by kernel_rfl) (fun _ _ _ h => h) (Or.inl ⟨by rfl,?_⟩) (by assumption) ?_;rotate_left
             · intro w hSw
               try dsimp only at hSw
               first | (go_simp;done) | (go_simp;with_reducible rfl)
             try simp only [Act.put,V9,VA,VB]
             refine wpAnyH_take (i := 9) (v := ?_) rfl (by kernel_rfl) (by kernel_rfl) (by kernel_rfl) (fun _ _ _ h => h) (Or.inl ⟨by rfl,?_⟩) (by assumption) ?_;rotate_left
             · intro w hSw
               try dsimp only at hSw
               first | (go_simp;done) | (go_simp;with_reducible rfl)
             try simp only [Act.put,V9,VA,VB]
             refine wpAnyH_take (i := 10) (v := ?_) rfl (by kernel_rfl) (by kernel_rfl) (by kernel_rfl) (fun _ _ _ h => h) (Or.inl ⟨by rfl,?_⟩) (by assumption) ?_;rotate_left
             · intro w hSw
               try dsimp only at hSw
               first | (go_simp;done) | (go_simp;with_reducible rfl)
             try simp only [Act.put,V9,VA,VB]
             refine wpAnyH_take (i := 11) (v := ?_) rfl (by kernel_rfl) (by kernel_rfl) (by kernel_rfl) (fun _ _ _ h => h) (Or.inl ⟨by rfl,?_⟩) (by assumption) ?_;rotate_left
             · intro w hSw
               try dsimp only at hSw
               first | (go_simp;done) | (go_simp;with_reducible rfl)
             try simp only [Act.put,V9,VA,VB]
             refine wpAnyH_ready (rs := [1,12]) (by kernel_rfl) (by simp) ?_;refine AllReadyH.cons rfl (fun K hK => ?_) (AllReadyH.cons rfl (fun K hK => ?_) AllReadyH.nil)
             · go_simp
               refine hK.out _ _ ?_ (fun hHeld => ?_)
               · try dsimp only
                 first | exact HC4 _ (Zd (Below.refl _ _)) | exact HC4 _ (Zd (Za (Below.refl _ _) _)) | exact HC4 _ (Za (Below.refl _ _) _) | exact HC4 _ ((Za (Below.refl _ _) _).alloc (Nat.le_refl _) _) | exact HG4 _ _ ((Za (Below.refl _ _) _).alloc (Nat.le_refl _) _) hgrow5 | exact HT4 _ _ _ ((Za (Below.refl _ _) _).alloc (Nat.le_refl _) _) hgrow5
               clear hK K
               try simp only [Act.put,V9,VA,VB]
               refine wpAnyH_ready (rs := [12]) (by kernel_rfl) (by simp) ?_;refine AllReadyH.cons rfl (fun K hK => ?_) AllReadyH.nil;go_simp;refine hK.out _ _ ?_ (fun hHeld => ?_)
               · try dsimp only
                 first | exact HC4 _ (Zd (Below.refl _ _)) | exact HC4 _ (Zd (Za (Below.refl _ _) _)) | exact HC4 _ (Za (Below.refl _ _) _) | exact HC4 _ ((Za (Below.refl _ _) _).alloc (Nat.le_refl _) _) | exact HG4 _ _ ((Za (Below.refl _ _) _).alloc (Nat.le_refl _) _) hgrow5 | exact HT4 _ _ _ ((Za (Below.refl _ _) _).alloc (Nat.le_refl _) _) hgrow5
               clear hK K
               try simp only [Act.put,V9,VA,VB]
               refine wpAnyH_ready (rs := [13]) (by kernel_rfl) (by simp) ?_;refine AllReadyH.cons rfl (fun K hK => ?_) AllReadyH.nil
               (refine step_append_lies _ (by rfl) _ _ _ (by rfl) (wo.heap.size + 1) 145 i5 (.agg #[.int .i64 0,.int .i64 0]) 2 16 Try.underlying140 hi5 hz50 hz51 hz52 rfl (by omega) (.slice (some ⟨g7,0,none⟩) (rn + 1) c7) (rn + 1) fs (by rfl) (HO9.out.alloc _) ⟨w'.heap.size,0,none⟩ 1 1 [.int .i64 x0v,.int .i64 x1v] (by rfl) (by rfl) (news2 _ _ _ _ _ (World.alloc_heap_new _ _)) hone (by omega) h63 hbytes (by simp;omega) (w'.heap.size + 1) (by simp) ?_;intro g5 cap5 w5 hown5 hgrow5 hat5 hlt5;have hx5 := HK4 _ _ ((Za (Below.refl _ _) _).alloc (Nat.le_refl _) _) hgrow5;have z5 := hx5.cell 2 (v := .slice (some ⟨g7,0,none⟩) (rn + 1) c7) rfl;have f5 := hx5.frozen 2)
               refine hK.out _ _ ?_ (fun hHeld => ?_)
               · try dsimp only
                 first | exact HC4 _ (Zd (Below.refl _ _)) | exact HC4 _ (Zd (Za (Below.refl _ _) _)) | exact HC4 _ (Za (Below.refl _ _) _) | exact HC4 _ ((Za (Below.refl _ _) _).alloc (Nat.le_refl _) _) | exact HG4 _ _ ((Za (Below.refl _ _) _).alloc (Nat.le_refl _) _) hgrow5 | exact HT4 _ _ _ ((Za (Below.refl _ _) _).alloc (Nat.le_refl _) _) hgrow5
               clear hK K
               try simp only [Act.put,V9,VA,VB]
               refine wpAnyH_take (i := 14) (v := ?_) rfl (by kernel_rfl) (by kernel_rfl) (by kernel_rfl) (fun _ _ _ h => h) (Or.inl ⟨by rfl,?_⟩) (by assumption) ?_;rotate_left
               · intro w hSw
                 try dsimp only at hSw
                 first | (go_simp;done) | (go_simp;with_reducible rfl)
               try simp only [Act.put,V9,VA,VB]
               refine wpAnyH_ready (rs := [15]) (by kernel_rfl) (by simp) ?_;refine AllReadyH.cons rfl (fun K hK => ?_) AllReadyH.nil;go_simp;refine hK.out _ _ ?_ (fun hHeld => ?_)
               · try dsimp only
                 first | exact HC4 _ (Zd (Below.refl _ _)) | exact HC4 _ (Zd (Za (Below.refl _ _) _)) | exact HC4 _ (Za (Below.refl _ _) _) | exact HC4 _ ((Za (Below.refl _ _) _).alloc (Nat.le_refl _) _) | exact HG4 _ _ ((Za (Below.refl _ _) _).alloc (Nat.le_refl _) _) hgrow5 | exact HT4 _ _ _ ((Za (Below.refl _ _) _).alloc (Nat.le_refl _) _) hgrow5
               clear hK K
               try simp only [Act.put,V9,VA,VB]
               refine wpAnyH_done (by kernel_rfl) ?_ _
               have hadd : rowN p xs (k + 1) = (x0v,x1v) :: acc := by rw [HA0.out,HQ.out]
               have hlen : (rowN p xs (k + 1)).length = (rn + 1) + 1 := by rw [hadd,List.length_cons,HNN.out]
               have hfl : fl145 (rowN p xs (k + 1)).reverse = fs ++ [.int .i64 x0v,.int .i64 x1v] := by rw [hadd,List.reverse_cons,XX,HF.out]
               have hge5 := (Xm hown5 (k := g5) rfl).1
               go_wp2
               go_roundw
               case measure => simp [intOf];omega
               case rel =>
                refine ⟨k + 1,some ⟨g5,0,none⟩,cap5,by omega,by go_num,⟨?_⟩,⟨?_⟩,⟨?_⟩⟩
                · exact ((X3 ((Za HB9.out _).alloc (Nat.le_trans HB9.out.size (Nat.le_refl _)) _) (by have := HB9.out.size;simp;omega) hgrow5 (fun kk hk => by have := (Xm HO9.out hk).1;omega))).setCell (p := ⟨wo.heap.size,2,none⟩) (Nat.le_refl _) _
                · rw [hlen];exact hx5.set 2 _
                · rw [hlen,hfl]
                  refine Qa hown5 (fun kk hk => Below.heap_setCell w5 ⟨wo.heap.size,2,none⟩ _ kk ?_);have := (Xm hown5 hk).1;show kk ≠ wo.heap.size;omega
             · go_simp
               refine hK.out _ _ ?_ (fun hHeld => ?_)
               · try dsimp only
                 first | exact HC4 _ (Zd (Below.refl _ _)) | exact HC4 _ (Zd (Za (Below.refl _ _) _)) | exact HC4 _ (Za (Below.refl _ _) _) | exact HC4 _ ((Za (Below.refl _ _) _).alloc (Nat.le_refl _) _) | exact HG4 _ _ ((Za (Below.refl _ _) _).alloc (Nat.le_refl _) _) hgrow5 | exact HT4 _ _ _ ((Za (Below.refl _ _) _).alloc (Nat.le_refl _) _) hgrow5
               clear hK K
               try simp only [Act.put,V9,VA,VB]
               refine wpAnyH_ready (rs := [1]) (by kernel_rfl) (by simp) ?_;refine AllReadyH.cons rfl (fun K hK => ?_) AllReadyH.nil;go_simp;refine hK.out _ _ ?_ (fun hHeld => ?_)
               · try dsimp only
                 first | exact HC4 _ (Zd (Below.refl _ _)) | exact HC4 _ (Zd (Za (Below.refl _ _) _)) | exact HC4 _ (Za (Below.refl _ _) _) | exact HC4 _ ((Za (Below.refl _ _) _).alloc (Nat.le_refl _) _) | exact HG4 _ _ ((Za (Below.refl _ _) _).alloc (Nat.le_refl _) _) hgrow5 | exact HT4 _ _ _ ((Za (Below.refl _ _) _).alloc (Nat.le_refl _) _) hgrow5
               clear hK K
               try simp only [Act.put,V9,VA,VB]
               refine wpAnyH_ready (rs := [13]) (by kernel_rfl) (by simp) ?_;refine AllReadyH.cons rfl (fun K hK => ?_) AllReadyH.nil
               (refine step_append_lies _ (by rfl) _ _ _ (by rfl) (wo.heap.size + 1) 145 i5 (.agg #[.int .i64 0,.int .i64 0]) 2 16 Try.underlying140 hi5 hz50 hz51 hz52 rfl (by omega) (.slice (some ⟨g7,0,none⟩) (rn + 1) c7) (rn + 1) fs (by rfl) (HO9.out.alloc _) ⟨w'.heap.size,0,none⟩ 1 1 [.int .i64 x0v,.int .i64 x1v] (by rfl) (by rfl) (news2 _ _ _ _ _ (World.alloc_heap_new _ _)) hone (by omega) h63 hbytes (by simp;omega) (w'.heap.size + 1) (by simp) ?_;intro g5 cap5 w5 hown5 hgrow5 hat5 hlt5;have hx5 := HK4 _ _ ((Za (Below.refl _ _) _).alloc (Nat.le_refl _) _) hgrow5;have z5 := hx5.cell 2 (v := .slice (some ⟨g7,0,none⟩) (rn + 1) c7) rfl;have f5 := hx5.frozen 2)
               refine hK.out _ _ ?_ (fun hHeld => ?_)
               · try dsimp only
                 first | exact HC4 _ (Zd (Below.refl _ _)) | exact HC4 _ (Zd (Za (Below.refl _ _) _)) | exact HC4 _ (Za (Below.refl _ _) _) | exact HC4 _ ((Za (Below.refl _ _) _).alloc (Nat.le_refl _) _) | exact HG4 _ _ ((Za (Below.refl _ _) _).alloc (Nat.le_refl _) _) hgrow5 | exact HT4 _ _ _ ((Za (Below.refl _ _) _).alloc (Nat.le_refl _) _) hgrow5
               clear hK K
               try simp only [Act.put,V9,VA,VB]
               refine wpAnyH_take (i := 14) (v := ?_) rfl (by kernel_rfl) (by kernel_rfl) (by kernel_rfl) (fun _ _ _ h => h) (Or.inl ⟨by rfl,?_⟩) (by assumption) ?_;rotate_left
               · intro w hSw
                 try dsimp only at hSw
                 first | (go_simp;done) | (go_simp;with_reducible rfl)
               try simp only [Act.put,V9,VA,VB]
               refine wpAnyH_ready (rs := [15]) (by kernel_rfl) (by simp) ?_;refine AllReadyH.cons rfl (fun K hK => ?_) AllReadyH.nil;go_simp;refine hK.out _ _ ?_ (fun hHeld => ?_)
               · try dsimp only
                 first | exact HC4 _ (Zd (Below.refl _ _)) | exact HC4 _ (Zd (Za (Below.refl _ _) _)) | exact HC4 _ (Za (Below.refl _ _) _) | exact HC4 _ ((Za (Below.refl _ _) _).alloc (Nat.le_refl _) _) | exact HG4 _ _ ((Za (Below.refl _ _) _).alloc (Nat.le_refl _) _) hgrow5 | exact HT4 _ _ _ ((Za (Below.refl _ _) _).alloc (Nat.le_refl _) _) hgrow5
               clear hK K
               try simp only [Act.put,V9,VA,VB]
               refine wpAnyH_done (by kernel_rfl) ?_ _
               have hadd : rowN p xs (k + 1) = (x0v,x1v) :: acc := by rw [HA0.out,HQ.out]
               have hlen : (rowN p xs (k + 1)).length = (rn + 1) + 1 := by rw [hadd,List.length_cons,HNN.out]
               have hfl : fl145 (rowN p xs (k + 1)).reverse = fs ++ [.int .i64 x0v,.int .i64 x1v] := by rw [hadd,List.reverse_cons,XX,HF.out]
               have hge5 := (Xm hown5 (k := g5) rfl).1
               go_wp2
               go_roundw
               case measure => simp [intOf];omega
               case rel =>
                refine ⟨k + 1,some ⟨g5,0,none⟩,cap5,by omega,by go_num,⟨?_⟩,⟨?_⟩,⟨?_⟩⟩
                · exact ((X3 ((Za HB9.out _).alloc (Nat.le_trans HB9.out.size (Nat.le_refl _)) _) (by have := HB9.out.size;simp;omega) hgrow5 (fun kk hk => by have := (Xm HO9.out hk).1;omega))).setCell (p := ⟨wo.heap.size,2,none⟩) (Nat.le_refl _) _
                · rw [hlen];exact hx5.set 2 _
                · rw [hlen,hfl]
                  refine Qa hown5 (fun kk hk => Below.heap_setCell w5 ⟨wo.heap.size,2,none⟩ _ kk ?_);have := (Xm hown5 hk).1;show kk ≠ wo.heap.size;omega
     · obtain rfl : k = xs.length - 1 := by omega
       have hltz2 : ¬ ((xs.length - 1 : Nat) : Int) < ((xs.length - 1 : Nat) : Int) := by omega
       have z0 := HX7.out.cell 0 (v := .int .i64 u) rfl;have z1 := HX7.out.cell 1 (v := .int .i64 v) rfl;have z2 := HX7.out.cell 2 (v := .slice A7 (rowN p xs (xs.length - 1)).length c7) rfl
       have henc : EncB N wr (u,v,(rowN p xs (xs.length - 1)).reverse) #[.agg #[.int .i64 u,.int .i64 v,.slice A7 (rowN p xs (xs.length - 1)).length c7]] :=
        ⟨_,rfl,by rw [List.length_reverse];exact Yd HO7.out (by have := HN.out wo HKr.out;omega)⟩
       obtain ⟨fn,tmps,assign,body,hy,hR⟩ := hY (bdN (spansOf is a b xs) ys i) (u,v,(rowN p xs (xs.length - 1)).reverse) _ wr (hT _ _ _ hJ HB7.out) henc (by have := HPRE.out;rw [HSP.out] at this;exact this)
       go_upto_region 13 with (fail)
       refine (wpIn_wide (n := m)).1 ?_
       gi_wp2
       refine ⟨fun h => absurd h (by simp [Fence.wide]),hR.mono ?_⟩;rintro ee W3 ⟨rfl,hJ3,hk3⟩
       gi_wp2
       go_wp2
       go_roundw
       case rel => exact ⟨i + 1,by omega,by go_num,by rw [HXN.out,HSP.out];exact hJ3,⟨Qg HKr.out (Qg (Q8 HB7.out) hk3)⟩⟩
       case measure => simp [intOf];omega
  · obtain rfl : i = ys.length - 1 := by omega
    have hltz : ¬ ((ys.length - 1 : Nat) : Int) < ((ys.length - 1 : Nat) : Int) := by omega
    go_wp2
    go_end0;exact ⟨⟨_,rfl⟩,hJ⟩
end Go.Proofs.Ythbajahklnpkcaa.PA

namespace Go.Proofs.Ythbajahklnpkcaa.PA
open Go.RowKit Go.Shelf Go.Sort Go.Proofs.YthbajahklnpkcaaW.PrintWords Go.Proofs.YthbajahklnpkcaaW.PrintLast Go.Proofs.YthbajahklnpkcaaW.PrintMore
set_option linter.unusedVariables false
set_option linter.unusedSimpArgs false
def edgX (l : List S43) : List Int := edgesL (fun r => r.f0) (fun r => wrap64 (r.f0 + r.f2)) l
def edgY (l : List S43) : List Int := edgesL (fun r => r.f1) (fun r => wrap64 (r.f1 + r.f3)) l
theorem Qf (fa fb : S43 → Int) (l : List S43) : (edgesL fa fb l).length ≤ 2 * l.length := by
 have h1 := Q6 fa fb l;have h2 := Lib.compact_length_le (sortI (endsOf fa fb l))
 have h3 : (sortI (endsOf fa fb l)).length = (endsOf fa fb l).length := by simp [sortI]
 unfold edgesL;omega
theorem enters139 : ∀ args w,(callFunc 139 args).run Try.prog w = .ok (.enter 139 args) w := Go.Proofs.enters_of Try.func139 (by kernel_rfl) rfl
theorem enters140 : ∀ args w,(callFunc 140 args).run Try.prog w = .ok (.enter 140 args) w := Go.Proofs.enters_of Try.func140 (by kernel_rfl) rfl
set_option maxRecDepth 100000 in
set_option maxHeartbeats 4000000 in
theorem bands_calls (gi : Nat) (A B : Option Addr) (cA cB : Nat) (a b : List S43) (w : World) (hr : Kd.C k43 w A a.length a) (hr2 : Kd.C k43 w B b.length b) (hla : a.length ≤ 40000) (hlb : b.length ≤ 40000) :
 Calls Try.prog 124 #[.slice A a.length cA,.slice B b.length cB,.func (.func gi) #[] #[]] w fun e w' => ∃ (X Y : Option Addr) (cX cY px py : Nat),
  e = .returned (.func (.func 141) #[] #[.pointer (some ⟨py,0,none⟩),.pointer (some ⟨px,0,none⟩),.pointer (some ⟨w.heap.size + 1 + 1,0,none⟩),.pointer (some ⟨w.heap.size,0,none⟩),.pointer (some ⟨w.heap.size + 1,0,none⟩)]) ∧
  EnvAt A B cA cB a b gi (edgX (a ++ b)) (edgY (a ++ b)) X Y cX cY w.heap.size (w.heap.size + 1) (w.heap.size + 1 + 1) px py w.heap.size w' ∧ w.heap.size ≤ px ∧ w.heap.size ≤ py ∧ Below w.heap.size w w' := by
 obtain ⟨w1,hw1⟩ : ∃ w1,((w.alloc (.cells #[.slice A a.length cA] 22)).alloc (.cells #[.slice B b.length cB] 22)).alloc (.cells #[.func (.func gi) #[] #[]] 75) = w1 := ⟨_,rfl⟩
 have hs1 : w1.heap.size = w.heap.size + 3 := by rw [← hw1];simp
 have hB1 : Below w.heap.size w w1 := by rw [← hw1];exact (((Below.refl _ w).alloc (Nat.le_refl _) _).alloc (by simp) _).alloc (by simp;omega) _
 have ba : Boxed w1 w.heap.size 22 (.slice A a.length cA) := by
  rw [← hw1];exact ((Boxed.new w 22 _).alloc _).alloc _
 have bb : Boxed w1 (w.heap.size + 1) 22 (.slice B b.length cB) := by
  have := ((Boxed.new (w.alloc (.cells #[.slice A a.length cA] 22)) 22 (.slice B b.length cB)).alloc (.cells #[.func (.func gi) #[] #[]] 75))
  rw [World.size_alloc,hw1] at this;exact this
 have bf : Boxed w1 (w.heap.size + 1 + 1) 75 (.func (.func gi) #[] #[]) := by
  have := Boxed.new ((w.alloc (.cells #[.slice A a.length cA] 22)).alloc (.cells #[.slice B b.length cB] 22)) 75 (.func (.func gi) #[] #[]);rw [World.size_alloc,World.size_alloc,hw1] at this;exact this
 have ca := ba.cell;have cb := bb.cell;have HR := Zb.mk (Kd.Z5 hr hB1);have HR2 := Zb.mk (Kd.Z5 hr2 hB1);have BA := Zb.mk ba;have BB := Zb.mk bb;have BF := Zb.mk bf;have HB1 := Zb.mk hB1;clear hr hr2 ba bb bf hB1
 obtain ⟨w2,hw2⟩ : ∃ w2,w1.alloc (.cells #[.slice A a.length cA,.slice B b.length cB] 22) = w2 := ⟨_,rfl⟩
 have HB2 : Zb (Below w1.heap.size w1 w2) := ⟨by rw [← hw2];exact (Below.refl _ _).alloc (Nat.le_refl _) _⟩
 have k2 := Blk.new w1 #[.slice A a.length cA,.slice B b.length cB] 22;rw [hw2] at k2;have HCC := Zb.mk (concat_calls w1.heap.size A B cA cB a b w2 (k2.cell 0 rfl) (k2.cell 1 rfl) (Kd.Z5 HR.out HB2.out) (Kd.Z5 HR2.out HB2.out) (by omega) (by omega));rw [hs1] at HCC
 have hlab : (a ++ b).length ≤ 80000 := by simp;omega
 generalize hab : a ++ b = ab at HCC hlab;have HAB := Zb.mk hab;clear hab k2
 go_enter Try.func124,Try.ntmps124
 go_wp2_with (first
  | (go_at_call 111;with_reducible refine HCC.out.mono ?_;rintro e w3 ⟨v3,rfl,hk3,hb3⟩;obtain ⟨L3,c3,rfl,hcap3,hC3⟩ := Kd.XT hk3;have HC3 := Zb.mk hC3;have HB3 := Zb.mk hb3;have hEx := Zb.mk (Qw 139 _ _ enters139 x139 L3 c3 ab w3 (by omega) hC3);clear hk3 hb3 hcap3 hC3)
  | (go_at_call 128;first
   | (with_reducible refine hEx.out.mono ?_;rintro e w4 ⟨v4,rfl,ho4,hb4⟩;obtain ⟨X,cX,rfl⟩ := Qc ho4;have HO4 := Zb.mk ho4;have HB4 := Zb.mk hb4;have hEy := Zb.mk (Qw 140 _ _ enters140 y140 L3 c3 ab (w4.alloc (.cells #[.slice X (edgesL (fun r => r.f0) (fun r => wrap64 (r.f0 + r.f2)) ab).length cX] 32)) (by omega) (Kd.Z5 HC3.out (hb4.trans (((Below.refl _ w4).alloc (Nat.le_refl _) _).mono hb4.size))));clear ho4 hb4)
   | (with_reducible refine hEy.out.mono ?_;rintro e w5 ⟨v5,rfl,ho5,hb5⟩;obtain ⟨Y,cY,rfl⟩ := Qc ho5;have HO5 := Zb.mk ho5;have HB5 := Zb.mk hb5;clear ho5 hb5)))
 go_ret;have c3_ := HB2.out.trans (HB3.out.mono HB2.out.size);have c4_ := c3_.trans (HB4.out.mono c3_.size);have c4a := c4_.alloc c4_.size (.cells #[.slice X (edgesL (fun r => r.f0) (fun r => wrap64 (r.f0 + r.f2)) ab).length cX] 32);have c5_ := c4a.trans (HB5.out.mono c4a.size);have c6_ := c5_.alloc c5_.size (.cells #[.slice Y (edgesL (fun r => r.f1) (fun r => wrap64 (r.f1 + r.f3)) ab).length cY] 32);have s1 := HB1.out.size;have s3 := c3_.size;have s4 := c4_.size;have s5 := c5_.size
 have s4b : w4.heap.size + 1 ≤ w5.heap.size := by have := HB5.out.size;simpa using this
 have s4c : (w4.alloc (.cells #[.slice X (edgesL (fun r => r.f0) (fun r => wrap64 (r.f0 + r.f2)) ab).length cX] 32)).heap.size = w4.heap.size + 1 := by simp
 refine ⟨X,Y,cX,cY,w4.heap.size,w5.heap.size,rfl,⟨Qh BA.out c6_,Qh BB.out c6_,Qh BF.out c6_,?_,Boxed.new w5 32 _,?_,?_,Kd.Z5 HR.out c6_,Kd.Z5 HR2.out c6_⟩,by omega,by omega,HB1.out.trans (c6_.mono s1)⟩
 · exact (Qh (Boxed.new w4 32 _) HB5.out).alloc _
 · exact Yd ((XI (HO4.out.alloc _) HB5.out).alloc _) (by omega)
 · exact Yd (HO5.out.alloc _) (by omega)
end Go.Proofs.Ythbajahklnpkcaa.PA

namespace Go.Proofs.Ythbajahklnpkcaa.PA
open Go.RowKit Go.Proofs.YthbajahklnpkcaaW.PrintWords Go.Proofs.YthbajahklnpkcaaW.PrintLast Go.Proofs.YthbajahklnpkcaaW.PrintMore
attribute [local go_sem] ZK ZL ZR ZU ZD ZC ZM ZN
set_option linter.unusedVariables false
set_option linter.unusedSimpArgs false
theorem eqA145 (d : Nat) (w : World) (x0 y0 : Int) (x1 y1 : Int) :
 (Op.equalIn (d + 2) 145 (.agg #[.int .i64 x0,.int .i64 x1]) (.agg #[.int .i64 y0,.int .i64 y1])).run Try.prog w = .ok (x0 == y0 && (x1 == y1)) w := by
 refine V8 Try.underlying145 (by kernel_rfl) ?_;refine Yc (by rfl) (by go_simp;rfl) (by go_simp;rfl) (by go_simp) ?_;exact JV (by rfl) (by go_simp;rfl) (by go_simp;rfl) (by go_simp)
end Go.Proofs.Ythbajahklnpkcaa.PA

namespace Go.Proofs.Ythbajahklnpkcaa.PA
open Go.RowKit Go.Proofs.YthbajahklnpkcaaW.PrintWords Go.Proofs.YthbajahklnpkcaaW.PrintLast Go.Proofs.YthbajahklnpkcaaW.PrintMore
attribute [local go_sem] ZK ZL ZR ZU ZD ZC ZM ZN
set_option linter.unusedVariables false
set_option linter.unusedSimpArgs false
attribute [local go_sem high] eqA145
def Xw.l0 : Nat → List (S145) → List (S145) → Int → Int → Option (Bool)
 | 0,_,_,_,_ => none
 | k + 1,x0,x1,x12,x13 => if x13 < x12 then (if 0 ≤ x13 then (if x13 < (x0.length : Int) then (if x13 < (x1.length : Int) then (if (!(((X4 x0 x13).f0) == ((X4 x1 x13).f0)) || (!(((X4 x0 x13).f1) == ((X4 x1 x13).f1)))) = true then (some false) else (Xw.l0 k x0 x1 x12 (wrap64 (x13 + 1)))) else (none)) else (none)) else (none)) else (some true)
def Xw.f (k : Nat) (l0 : List (S145)) (l1 : List (S145)) : Option (Bool) := if (l0.length : Int) = (l1.length : Int) then (Xw.l0 k l0 l1 (l0.length : Int) 0) else (some false)
set_option maxHeartbeats 8000000 in
set_option maxRecDepth 100000 in
theorem Xw.calls (k : Nat) (A0 : Option Addr) (c0 : Nat) (l0 : List (S145)) (A1 : Option Addr) (c1 : Nat) (l1 : List (S145)) (r : Bool) (w : World) (hr0 : Kd.C k145 w A0 l0.length l0) (hc0 : l0.length ≤ c0) (hr1 : Kd.C k145 w A1 l1.length l1) (hc1 : l1.length ≤ c1) (h : Xw.f k l0 l1 = some r) :
 Calls Try.prog 125 #[.slice A0 l0.length c0,.slice A1 l1.length c1] w fun e w' => e = .returned (.bool r) ∧ Drawn0 w w' := by
 have hu145 := Try.underlying145;have HR0 := Zb.mk hr0;have HC0 := Zb.mk hc0;clear hr0 hc0;have HR1 := Zb.mk hr1;have HC1 := Zb.mk hc1;clear hr1 hc1;have H : (if (l0.length : Int) = (l1.length : Int) then (Xw.l0 k l0 l1 (l0.length : Int) 0) else (some false)) = some r := h;clear h
 by_cases c3 : (l0.length : Int) = (l1.length : Int)
 · rw [if_pos c3] at H
   have c3b0 : ((l0.length : Int) == (l1.length : Int)) = true := beq_iff_eq.mpr c3;have c3b1 : ((l0.length : Int) != (l1.length : Int)) = false := bne_eq_false_iff_eq.mpr c3
   have c3b2 : (l0.length == l1.length) = true := by first | simpa using c3 | (simp at c3 ⊢;omega)
   clear c3;have H' := Zb.mk H;clear H
   go_enter Try.func125,Try.ntmps125
   go_wp2
   repeat (go_quiet (fail);try go_wp2)
   go_loopg [13] k (fun kq v13 w' => ∃ (x13_1 : Int),v13 = .int .i64 x13_1 ∧ Zb (Xw.l0 kq l0 l1 (l0.length : Int) x13_1 = some r) ∧ Zb (kq ≤ k) ∧ Drawn0 w w')
   case atStart => exact ⟨(0),(by first | rfl | (simp;done) | (simp [*];done)),H',⟨Nat.le_refl _⟩,by repeat (first | exact Drawn0.refl _ | apply Drawn0.step)⟩
   case round =>
    clear H'
    (try clear c1); (try clear p2); (try clear c3); (try clear c3b0); (try clear c3b1); (try clear c3b2)
    obtain ⟨x13_1,rfl,HA,HK1,⟨m1,rfl⟩⟩ := hrel
    cases gk with
    | zero => exact absurd HA.out (by simp [Xw.l0])
    | succ k1 =>
     have H := HA.out;clear HA;simp only [Xw.l0] at H
     by_cases c4 : x13_1 < (l0.length : Int)
     · rw [if_pos c4] at H
       have c4b0 : decide (x13_1 < (l0.length : Int)) = true := decide_eq_true c4;clear c4
       by_cases c5 : 0 ≤ x13_1
       · rw [if_pos c5] at H
         have c5b0 : decide (0 ≤ x13_1) = true := decide_eq_true c5;clear c5
         by_cases c6 : x13_1 < (l0.length : Int)
         · rw [if_pos c6] at H
           have c6b0 : decide (x13_1 < (l0.length : Int)) = true := decide_eq_true c6;clear c6
           by_cases c7 : x13_1 < (l1.length : Int)
           · rw [if_pos c7] at H
             have c7b0 : decide (x13_1 < (l1.length : Int)) = true := decide_eq_true c7;clear c7
             by_cases c8 : (!(((X4 l0 x13_1).f0) == ((X4 l1 x13_1).f0)) || (!(((X4 l0 x13_1).f1) == ((X4 l1 x13_1).f1)))) = true
             · rw [if_pos c8] at H
               have c8b0 : (!(((X4 l0 x13_1).f0) == ((X4 l1 x13_1).f0)) || (!(((X4 l0 x13_1).f1) == ((X4 l1 x13_1).f1)))) = true := c8;clear c8;obtain rfl := Option.some.inj H;have p236 : 0 ≤ (x13_1 : Int) := of_decide_eq_true (by first | (with_reducible assumption) | assumption);have q236 : x13_1 < (l0.length : Int) := of_decide_eq_true (by first | (with_reducible assumption) | assumption);obtain ⟨ad236,e236,hx236_0,hx236_1⟩ := Y9 HR0.out x13_1 p236 q236
               cases e236
               replace p236 := eq_true p236;replace q236 := eq_true q236;have p237 : 0 ≤ (x13_1 : Int) := of_decide_eq_true (by first | (with_reducible assumption) | assumption);have q237 : x13_1 < (l1.length : Int) := of_decide_eq_true (by first | (with_reducible assumption) | assumption);obtain ⟨ad237,e237,hx237_0,hx237_1⟩ := Y9 HR1.out x13_1 p237 q237
               cases e237
               replace p237 := eq_true p237;replace q237 := eq_true q237
               go_wp2
               repeat (go_quiet (fail);try go_wp2)
               go_ret;exact ⟨by first | rfl | (simp;done) | (simp [*];done),by repeat (first | exact Drawn0.refl _ | apply Drawn0.step)⟩
             · rw [if_neg c8] at H
               have c8b0 : (!(((X4 l0 x13_1).f0) == ((X4 l1 x13_1).f0)) || (!(((X4 l0 x13_1).f1) == ((X4 l1 x13_1).f1)))) = false := by simpa using c8
               clear c8;have H' := Zb.mk H;clear H;have p236 : 0 ≤ (x13_1 : Int) := of_decide_eq_true (by first | (with_reducible assumption) | assumption);have q236 : x13_1 < (l0.length : Int) := of_decide_eq_true (by first | (with_reducible assumption) | assumption);obtain ⟨ad236,e236,hx236_0,hx236_1⟩ := Y9 HR0.out x13_1 p236 q236
               cases e236
               replace p236 := eq_true p236;replace q236 := eq_true q236;have p237 : 0 ≤ (x13_1 : Int) := of_decide_eq_true (by first | (with_reducible assumption) | assumption);have q237 : x13_1 < (l1.length : Int) := of_decide_eq_true (by first | (with_reducible assumption) | assumption);obtain ⟨ad237,e237,hx237_0,hx237_1⟩ := Y9 HR1.out x13_1 p237 q237
               cases e237
               replace p237 := eq_true p237;replace q237 := eq_true q237
               go_wp2
               repeat (go_quiet (fail);try go_wp2)
               go_roundg k1
               case measure => have := HK1.out;omega
               case rel => exact ⟨(wrap64 (x13_1 + 1)),(by first | rfl | (simp;done) | (simp [*];done)),H',⟨by have := HK1.out;omega⟩,by repeat (first | exact Drawn0.refl _ | apply Drawn0.step)⟩
           · rw [if_neg c7] at H
             exact absurd H (by simp)
         · rw [if_neg c6] at H
           exact absurd H (by simp)
       · rw [if_neg c5] at H
         exact absurd H (by simp)
     · rw [if_neg c4] at H
       have c4b0 : decide (x13_1 < (l0.length : Int)) = false := decide_eq_false c4;clear c4;obtain rfl := Option.some.inj H
       go_wp2
       repeat (go_quiet (fail);try go_wp2)
       go_ret;exact ⟨by first | rfl | (simp;done) | (simp [*];done),by repeat (first | exact Drawn0.refl _ | apply Drawn0.step)⟩
 · rw [if_neg c3] at H
   have c3b0 : ((l0.length : Int) == (l1.length : Int)) = false := beq_eq_false_iff_ne.mpr c3;have c3b1 : ((l0.length : Int) != (l1.length : Int)) = true := bne_iff_ne.mpr c3
   have c3b2 : (l0.length == l1.length) = false := by first | simpa using c3 | (simp at c3 ⊢;omega)
   obtain rfl := Option.some.inj H
   go_enter Try.func125,Try.ntmps125
   go_wp2
   repeat (go_quiet (fail);try go_wp2)
   go_ret;exact ⟨by first | rfl | (simp;done) | (simp [*];done),by repeat (first | exact Drawn0.refl _ | apply Drawn0.step)⟩
end Go.Proofs.Ythbajahklnpkcaa.PA

namespace Go.Proofs.Ythbajahklnpkcaa.PA
open Go.RowKit Go.Shelf Go.Sort Go.Proofs.YthbajahklnpkcaaW.PrintWords Go.Proofs.YthbajahklnpkcaaW.PrintLast Go.Proofs.YthbajahklnpkcaaW.PrintMore
set_option linter.unusedVariables false
set_option linter.unusedSimpArgs false
def mk145 (s : Sp) : S145 := ⟨s.1,s.2⟩
theorem rd_mk (s : List Sp) (j : Nat) (h : j < s.length) : X4 (s.map mk145) (j : Int) = mk145 s[j] := by
 simp [X4,h]
theorem Vn (s t : List Sp) (hl : s.length = t.length) (hs : s.length ≤ 1000000) : ∀ (k j : Nat),j ≤ s.length → s.length - j < k → Xw.l0 k (s.map mk145) (t.map mk145) (s.length : Int) (j : Int) = some (decide (s.drop j = t.drop j))
 | 0,j,_,h => by omega
 | k + 1,j,hj,hk => by
  unfold Xw.l0
  by_cases hlt : j < s.length
  · rw [if_pos (by omega),if_pos (by omega),if_pos (by simp;omega),if_pos (by simp;omega),rd_mk s j hlt,rd_mk t j (by omega)]
    rw [List.drop_eq_getElem_cons hlt,List.drop_eq_getElem_cons (show j < t.length by omega)]
    by_cases he : s[j] = t[j]
    · have h1 : (!((mk145 s[j]).f0 == (mk145 t[j]).f0) || (!((mk145 s[j]).f1 == (mk145 t[j]).f1))) = false := by rw [he];simp
      rw [h1,if_neg (by decide),w64 (by omega) (by omega)];have := Vn s t hl hs k (j + 1) (by omega) (by omega);rw [show ((j + 1 : Nat) : Int) = (j : Int) + 1 by omega] at this;rw [this];exact congrArg some (decide_eq_decide.mpr ⟨fun h => by rw [he,h],fun h => (List.cons.inj h).2⟩)
    · have h1 : (!((mk145 s[j]).f0 == (mk145 t[j]).f0) || (!((mk145 s[j]).f1 == (mk145 t[j]).f1))) = true := by
       rcases Classical.em (s[j].1 = t[j].1) with h | h
       · have : s[j].2 ≠ t[j].2 := fun h' => he (Prod.ext h h')
         simp [mk145,this]
       · simp [mk145,h]
      rw [h1,if_pos rfl];exact congrArg some (decide_eq_false (fun h => he (List.cons.inj h).1)).symm
  · rw [if_neg (by omega),List.drop_eq_nil_of_le (by omega),List.drop_eq_nil_of_le (by omega)]
    simp
theorem span_f (s t : List Sp) (hs : s.length ≤ 1000000) : Xw.f (s.length + 1) (s.map mk145) (t.map mk145) = some (decide (s = t)) := by
 unfold Xw.f
 by_cases hl : s.length = t.length
 · rw [if_pos (by simp [hl])]
   have := Vn s t hl hs (s.length + 1) 0 (by omega) (by omega)
   simpa using this
 · rw [if_neg (by simp;omega)]
   congr 1
   have : s ≠ t := fun h => hl (by rw [h])
   simp [this]
theorem reps145 (W : World) (base : Nat) (ok : Nat → Prop) (l : List Sp) : Reps (k145.M W base ok) 2 (l.map mk145) (fl145 l) := by
 have key : ∀ (r a : List Sp),Reps (k145.M W base ok) 2 (a.map mk145) (fl145 a) → Reps (k145.M W base ok) 2 ((a ++ r).map mk145) (fl145 (a ++ r)) := by
  intro r
  induction r with
  | nil => intro a h;simpa using h
  | cons x r ih =>
   intro a h
   have h1 : Reps (k145.M W base ok) 2 ((a ++ [x]).map mk145) (fl145 (a ++ [x])) := by
    have := h.snoc (k145_mkM W base ok (mk145 x)) rfl
    simpa [fl145,mk145] using this
   have := ih (a ++ [x]) h1
   simpa using this
 simpa using key l [] (Reps.none _ _)
theorem YQ {W : World} {base c n : Nat} {A : Option Addr} {l : List Sp} (h : W.ownsRow base 145 2 (.slice A n c) n (fl145 l)) (hn : n = l.length) : Kd.C k145 W A (l.map mk145).length (l.map mk145) ∧ (l.map mk145).length ≤ c := by
 subst hn
 have hR : Kd.R k145 145 W base (fun _ => True) (.slice A l.length c) (l.map mk145) := ⟨fun _ _ => trivial,fl145 l,by rw [List.length_map];exact h,reps145 _ _ _ l⟩
 obtain ⟨h1,h2,h3⟩ := Kd.Z3 hR;exact ⟨h3,by rw [← h1];exact h2⟩
theorem same125 {W : World} {base base2 c c2 n n2 : Nat} {A A2 : Option Addr} {s t : List Sp} (h : W.ownsRow base 145 2 (.slice A n c) n (fl145 s)) (hn : n = s.length) (h2 : W.ownsRow base2 145 2 (.slice A2 n2 c2) n2 (fl145 t)) (hn2 : n2 = t.length) (hs : s.length ≤ 1000000) :
 Calls Try.prog 125 #[.slice A n c,.slice A2 n2 c2] W fun e w' => e = .returned (.bool (decide (s = t))) ∧ Drawn0 W w' := by
 obtain ⟨k1,k2⟩ := YQ h hn;obtain ⟨k3,k4⟩ := YQ h2 hn2;have := Xw.calls (s.length + 1) A c (s.map mk145) A2 c2 (t.map mk145) _ W k1 k2 k3 k4 (span_f s t hs);rw [List.length_map,List.length_map,← hn,← hn2] at this;exact this
def flB (l : List (Bd × Value)) : List Value := l.flatMap fun p => [.int .i64 p.1.1,.int .i64 p.1.2.1,p.2]
theorem QM (l : List (Bd × Value)) : (flB l).length = l.length * 3 := by
 induction l with
 | nil => rfl
 | cons s l ih =>
  have e : flB (s :: l) = .int .i64 s.1.1 :: .int .i64 s.1.2.1 :: s.2 :: flB l := rfl;rw [e,List.length_cons,List.length_cons,List.length_cons,ih,List.length_cons];omega
theorem Yh (l : List (Bd × Value)) (p : Bd × Value) : flB (l ++ [p]) = flB l ++ [.int .i64 p.1.1,.int .i64 p.1.2.1,p.2] := by simp [flB]
theorem flB_last (l : List (Bd × Value)) (p : Bd × Value) : (flB (l ++ [p]))[l.length * 3 + 1]? = some (.int .i64 p.1.2.1) ∧ (flB (l ++ [p]))[l.length * 3 + 2]? = some p.2 := by
 rw [Yh];constructor
 · rw [List.getElem?_append_right (by rw [QM];omega),QM,show l.length * 3 + 1 - l.length * 3 = 1 by omega];rfl
 · rw [List.getElem?_append_right (by rw [QM];omega),QM,show l.length * 3 + 2 - l.length * 3 = 2 by omega];rfl
theorem flB_set (l : List (Bd × Value)) (a b v : Int) (s : List Sp) (x : Value) : (flB (l ++ [((a,b,s),x)])).set (l.length * 3 + 1) (.int .i64 v) = flB (l ++ [((a,v,s),x)]) := by
 rw [Yh,Yh,List.set_append_right _ _ (by rw [QM];omega),QM,show l.length * 3 + 1 - l.length * 3 = 1 by omega];rfl
theorem Vw : ∀ (l : List (Bd × Value)) (i : Nat) (p : Bd × Value),l[i]? = some p → (flB l)[i * 3]? = some (.int .i64 p.1.1) ∧ (flB l)[i * 3 + 1]? = some (.int .i64 p.1.2.1) ∧ (flB l)[i * 3 + 2]? = some p.2
 | [],i,p,h => by cases h
 | q :: l,0,p,h => by cases h;exact ⟨rfl,rfl,rfl⟩
 | q :: l,i + 1,p,h => by
  obtain ⟨h1,h2,h3⟩ := Vw l i p h;have e : flB (q :: l) = .int .i64 q.1.1 :: .int .i64 q.1.2.1 :: q.2 :: flB l := rfl
  have e3 : (i + 1) * 3 = i * 3 + 1 + 1 + 1 := by omega
  rw [e,e3];exact ⟨h1,h2,h3⟩
structure MI (w : World) (N : Nat) (acc : List Bd) (LA : Option Addr) (Lc : Nat) (bp : List (Bd × Value)) (W : World) : Prop where
 vb : Boxed W w.heap.size 136 (.slice LA bp.length Lc)
 row : W.ownsRow N 142 3 (.slice LA bp.length Lc) bp.length (flB bp)
 sps : ∀ p ∈ bp,W.ownsRow N 145 2 p.2 p.1.2.2.length (fl145 p.1.2.2)
 acc_ : bp.map (·.1) = acc.reverse
 bl : Below w.heap.size w W
 sz : N ≤ W.heap.size
section
variable {w W W' : World} {N : Nat} {acc : List Bd} {LA : Option Addr} {Lc : Nat} {bp : List (Bd × Value)}
theorem MI.bel (h : MI w N acc LA Lc bp W) (hb : Below W.heap.size W W') : MI w N acc LA Lc bp W' :=
 ⟨Qh h.vb hb,XI h.row hb,fun p hp => XI (h.sps p hp) hb,h.acc_,h.bl.trans (hb.mono h.bl.size),Nat.le_trans h.sz hb.size⟩
theorem MI.alloc (h : MI w N acc LA Lc bp W) (o : Obj) : MI w N acc LA Lc bp (W.alloc o) := h.bel ((Below.refl _ W).alloc (Nat.le_refl _) o)
theorem MI.put (h : MI w N acc LA Lc bp W) (hN : w.heap.size < N) {l : Nat} {o : Obj} (o' : Obj) (hl : N ≤ l) (ho : W.heap[l]? = some o) (hc : o.isCells = false) : MI w N acc LA Lc bp (W.putObj l o') :=
 ⟨h.vb.kept (grownBy_putObj' W l o') (fun e => by cases e;omega),ownsRow_putObj h.row o' ho hc,fun p hp => ownsRow_putObj (h.sps p hp) o' ho hc,h.acc_,
  h.bl.grown (grownBy_putObj' W l o') h.bl.size (fun k ek => by cases ek;omega),by simpa [World.putObj] using h.sz⟩
end
end Go.Proofs.Ythbajahklnpkcaa.PA

namespace Go.Proofs.Ythbajahklnpkcaa.PA
open Go.RowKit Go.Shelf Go.Sort Go.Proofs.YthbajahklnpkcaaW.PrintWords Go.Proofs.YthbajahklnpkcaaW.PrintLast Go.Proofs.YthbajahklnpkcaaW.PrintMore
attribute [local go_sem] Oper.semAt_some
set_option linter.unusedVariables false
set_option linter.unusedSimpArgs false
theorem row_cells {W : World} {base n size : Nat} {e : TypeId} {v : Value} {xs : List Value} (h : W.ownsRow base e size v n xs) (tmp : Obj) : ∀ (j : Nat) (o : Obj),v.ownBlock = some j → (W.alloc tmp).heap[j]? = some o → o.isCells = true := by
 intro j o hj ho;obtain ⟨cells,hc⟩ := XM h j hj;rw [Below.heap_alloc W tmp j (Xm h hj).2,hc] at ho
 cases ho
 rfl
theorem QV (W : World) (a b c : Value) (t : TypeId) : ∀ j u,[a,b,c][j]? = some u → (W.alloc (.cells #[a,b,c] t)).cell? ((⟨W.heap.size,0,none⟩ : Addr).add j) = some u := by
 intro j u h;have HB := Blk.new W #[a,b,c] t
 match j,h with
 | 0,h => simp at h;subst h;exact HB.cell 0 rfl
 | 1,h => simp at h;subst h;exact HB.cell 1 rfl
 | 2,h => simp at h;subst h;exact HB.cell 2 rfl
 | j + 3,h => simp at h
section
variable {w W w1 : World} {N : Nat} {acc : List Bd} {LA : Option Addr} {Lc : Nat} {bp : List (Bd × Value)}
theorem MI.app (h : MI w N acc LA Lc bp W) (hN : w.heap.size < N) {tmp : Obj} {x : Bd} {vv : Value} {A2 : Option Addr} {c2 : Nat}
 (hs : W.ownsRow N 145 2 vv x.2.2.length (fl145 x.2.2)) (hne : addP acc x.1 x.2.1 x.2.2 = x :: acc) (hgrow : (W.alloc tmp).grownBy w1 (Value.slice LA bp.length Lc).ownBlock)
 (hown : w1.ownsRow N 142 3 (.slice A2 (bp.length + 1) c2) (bp.length + 1) (flB bp ++ [.int .i64 x.1,.int .i64 x.2.1,vv])) :
 MI w N (addP acc x.1 x.2.1 x.2.2) A2 c2 (bp ++ [(x,vv)]) (w1.setCell ⟨w.heap.size,0,none⟩ (.slice A2 (bp ++ [(x,vv)]).length c2)) ∧ KeepsOthers W (w1.setCell ⟨w.heap.size,0,none⟩ (.slice A2 (bp ++ [(x,vv)]).length c2)) ∧ KtN N w.heap.size W (w1.setCell ⟨w.heap.size,0,none⟩ (.slice A2 (bp ++ [(x,vv)]).length c2)) := by
 have hsz := h.sz;have hlt := h.vb.lt
 have hge : ∀ k,(Value.slice LA bp.length Lc).ownBlock = some k → N ≤ k := fun k hk => (Xm h.row hk).1
 have hs1 : W.heap.size + 1 ≤ w1.heap.size := by have := hgrow.size;simpa using this
 have hvb : Boxed w1 w.heap.size 136 (.slice LA bp.length Lc) := (h.vb.alloc tmp).kept hgrow (fun e => by have := hge _ e.symm;omega)
 have hrow : ∀ {v : Value} {n : Nat} {zs : List Value},W.ownsRow N 145 2 v n zs → (w1.setCell ⟨w.heap.size,0,none⟩ (.slice A2 (bp ++ [(x,vv)]).length c2)).ownsRow N 145 2 v n zs := by
  intro v n zs hz;refine Qa hz (fun k hk => ?_);have hk1 := Xm hz hk;rw [Below.heap_setCell w1 ⟨w.heap.size,0,none⟩ _ k (by show k ≠ w.heap.size;omega)];rw [hgrow.block k (by simp;omega) (fun e => ?_),Below.heap_alloc W tmp k hk1.2];obtain ⟨c1,h1⟩ := XM hz k hk;obtain ⟨c3,h3⟩ := XM h.row k e.symm;rw [h1] at h3
  cases h3
 have hlen : (bp ++ [(x,vv)]).length = bp.length + 1 := by simp
 refine ⟨⟨hvb.set _,?_,?_,?_,?_,?_⟩,?_,?_⟩
 · rw [Yh,hlen]
   exact Qa hown (fun k hk => Below.heap_setCell w1 ⟨w.heap.size,0,none⟩ _ k (by have := (Xm hown hk).1;show k ≠ w.heap.size;omega))
 · intro p hp
   rcases List.mem_append.mp hp with hp | hp
   · exact hrow (h.sps p hp)
   · simp only [List.mem_singleton] at hp
     subst hp;exact hrow hs
 · rw [hne];simp [h.acc_]
 · exact ((h.bl.alloc h.bl.size _).grown hgrow (by have := h.bl.size;simp;omega) (fun k hk => by have := hge k hk;omega)).setCell (p := ⟨w.heap.size,0,none⟩) (Nat.le_refl _) _
 · have : (w1.setCell ⟨w.heap.size,0,none⟩ (.slice A2 (bp ++ [(x,vv)]).length c2)).heap.size = w1.heap.size := by show (w1.heap.modify _ _).size = _;simp
   omega
 · exact ((KeepsOthers.alloc W tmp).trans (KeepsOthers.of_grownBy hgrow (row_cells h.row tmp))).trans (KeepsOthers.setCell _ _ _)
 · refine ⟨?_,fun k o hk hne2 ho hco => ?_⟩
   · have : (w1.setCell ⟨w.heap.size,0,none⟩ (.slice A2 (bp ++ [(x,vv)]).length c2)).heap.size = w1.heap.size := by show (w1.heap.modify _ _).size = _;simp
     omega
   · rw [Below.heap_setCell w1 ⟨w.heap.size,0,none⟩ _ k hne2]
     have hkl := (Array.getElem?_eq_some_iff.1 ho).1;rw [hgrow.block k (by simp;omega) (fun e => by have := hge _ e.symm;omega),Below.heap_alloc W tmp k hkl];exact ho
theorem MI.mrg {g : Nat} {bp0 : List (Bd × Value)} {a b v : Int} {s : List Sp} {x : Value} {r : List Bd} (h : MI w N ((a,b,s) :: r) (some ⟨g,0,none⟩) Lc (bp0 ++ [((a,b,s),x)]) W) (hN : w.heap.size < N) :
 MI w N ((a,v,s) :: r) (some ⟨g,0,none⟩) Lc (bp0 ++ [((a,v,s),x)]) (W.setCell ⟨g,bp0.length * 3 + 1,none⟩ (.int .i64 v)) ∧ KeepsOthers W (W.setCell ⟨g,bp0.length * 3 + 1,none⟩ (.int .i64 v)) ∧ KtN N w.heap.size W (W.setCell ⟨g,bp0.length * 3 + 1,none⟩ (.int .i64 v)) := by
 have hg := Xm h.row (k := g) rfl;have hsz := h.sz
 have hszs : (W.setCell ⟨g,bp0.length * 3 + 1,none⟩ (.int .i64 v)).heap.size = W.heap.size := by show (W.heap.modify _ _).size = _;simp
 have hl : ∀ q : Bd × Value,(bp0 ++ [q]).length = bp0.length + 1 := fun q => by simp
 have hacc := h.acc_;simp only [List.map_append,List.map_cons,List.map_nil,List.reverse_cons] at hacc;have hacc2 : bp0.map (·.1) = r.reverse := (List.append_inj' hacc rfl).1;have hvb := h.vb;rw [hl] at hvb;refine ⟨⟨?_,?_,?_,?_,?_,?_⟩,KeepsOthers.setCell _ _ _,?_,fun k o hk hne ho hco => ?_⟩
 · rw [hl];exact (Below.heap_setCell W ⟨g,bp0.length * 3 + 1,none⟩ _ w.heap.size (by show w.heap.size ≠ g;omega)).trans hvb
 · have := Vs h.row (bp0.length * 3 + 1) (.int .i64 v)
   rw [flB_set,hl] at this;rw [hl];exact this
 · intro p hp
   have hr : ∀ {vv : Value} {n : Nat} {zs : List Value},W.ownsRow N 145 2 vv n zs → (W.setCell ⟨g,bp0.length * 3 + 1,none⟩ (.int .i64 v)).ownsRow N 145 2 vv n zs := by
    intro vv n zs hz;refine Qa hz (fun k hk => Below.heap_setCell W ⟨g,bp0.length * 3 + 1,none⟩ _ k ?_);obtain ⟨c1,h1⟩ := XM hz k hk;obtain ⟨c3,h3⟩ := XM h.row g rfl;show k ≠ g;rintro rfl;rw [h1] at h3
    cases h3
   rcases List.mem_append.mp hp with hp | hp
   · exact hr (h.sps p (List.mem_append_left _ hp))
   · simp only [List.mem_singleton] at hp
     subst hp;exact hr (h.sps ((a,b,s),x) (List.mem_append_right _ (by simp)))
 · simp [hacc2]
 · exact h.bl.setCell (p := ⟨g,bp0.length * 3 + 1,none⟩) (by show w.heap.size ≤ g;omega) _
 · omega
 · omega
 · rw [Below.heap_setCell W ⟨g,bp0.length * 3 + 1,none⟩ _ k (by show k ≠ g;omega)]
   exact ho
end
end Go.Proofs.Ythbajahklnpkcaa.PA

namespace Go
set_option linter.unusedVariables false
variable {F : Fence} {n : Nat} {P : Program}
theorem Oper.wpIn_round (l : Nat) {o : Oper} (hnd : ∀ c,o.op ≠ .defer c) (hro : F.round = none) {a : Act} {w : World} {K : Act → World → Prop} {Q : Exit → Act → World → Prop} (h : o.wpIn F n P a w K Q) : o.wpIn (F.inRound l) n P a w K Q := by
 refine ⟨h.1,?_⟩;have h2 := h.2;rw [hro,Oper.semAt_none] at h2;show Oper.uponIn (F.inRound l) n P o a K Q ((o.semAt (some l) a.eval).run P w);rw [Oper.semAt_some l _ _ hnd];exact h2
theorem Ql (l : Nat) {ops : Array Oper} (hnd : ∀ (i : Nat) (o : Oper),ops[i]? = some o → ∀ c,o.op ≠ .defer c) (hro : F.round = none) {md : Region.Mode} {Q : Exit → Act → World → Prop} : ∀ (fuel : Nat) (listed : Array Bool) (a : Act) (w : World),
 wpAnyIn F n P md ops Q fuel listed a w → wpAnyIn (F.inRound l) n P md ops Q fuel listed a w
 | 0,_,_,_,h => h
 | fuel + 1,listed,a,w,h => by
  refine ⟨h.1,fun i hi => ?_⟩;have h2 := h.2 i hi;unfold wpOpIn at h2 ⊢;split
  · rename_i ho
    simp only [ho] at h2;exact Ql l hnd hro fuel _ a w h2
  · rename_i o ho
    simp only [ho] at h2;split
    · rename_i hw
      simp only [hw,if_true] at h2;exact Oper.wpIn_round l (hnd i o ho) hro (Oper.wpIn_mono (fun a w h => Ql l hnd hro fuel _ a w h) h2)
    · rename_i hw
      rw [if_neg hw] at h2;exact ⟨h2.1,Ql l hnd hro fuel _ _ _ h2.2⟩
def noDefer (l : List Oper) : Bool := l.all fun o => match o.op with
 | .defer _ => false
 | _ => true
theorem XO {id l : Nat} {Q : Exit → Act → World → Prop} {a : Act} {w : World} {os : List Oper} (hro : F.round = none) (hm : P.follows .mixedOrders = true) (hB : Region.lexB .any os.toArray = true) (hd : noDefer os = true)
 (h : wpQuietIn F n P os.toArray (fun w' => ∃ n,w' = w.drewN n) (fun a' => ∀ w',(∃ n,w' = w.drewN n) → Q .normal a' w') os a) : (Code.region id os.toArray true).wpIn (F.inRound l) n P Q a w := by
 have hB' := hB;simp only [Region.lexB,Bool.and_eq_true] at hB
 have hnd : ∀ (i : Nat) (o : Oper),os.toArray[i]? = some o → ∀ c,o.op ≠ .defer c := by
  intro i o ho c hc
  have hm : o ∈ os := by
   have := List.mem_of_getElem? (by simpa using ho : os[i]? = some o);exact this
  have := List.all_eq_true.mp hd o hm;rw [hc] at this
  cases this
 refine wpIn_region_any hm (Ql l hnd hro _ _ _ _ ?_);refine wpAnyIn_of_quiet (C := fun w' => ∃ n,w' = w.drewN n) (Q := fun a' => ∀ w',(∃ n,w' = w.drewN n) → Q .normal a' w') hro (fun _ w' hw' h => h w' hw') _ _ _ _ ⟨1,rfl⟩ ?_;have := wpAnyQIn_lex (F := F) (n := n) (C := fun w' => ∃ n,w' = w.drewN n) (md := .any) hB.1 os.toArray.toList 0 (Array.replicate os.toArray.size false) a (by simp) (by simpa using hB.2) (by simpa using h)
 simpa using this
end Go

namespace Go.Proofs.Ythbajahklnpkcaa.PA
open Go.RowKit Go.Shelf Go.Sort Go.Proofs.YthbajahklnpkcaaW.PrintWords Go.Proofs.YthbajahklnpkcaaW.PrintLast Go.Proofs.YthbajahklnpkcaaW.PrintMore
attribute [local go_sem] Oper.semAt_some
set_option linter.unusedVariables false
set_option linter.unusedSimpArgs false
theorem addP_sp {acc : List Bd} {u v : Int} {s : List Sp} {B : Nat} (h : ∀ y ∈ acc,y.2.2.length ≤ B) (hs : s.length ≤ B) : ∀ y ∈ addP acc u v s,y.2.2.length ≤ B := by
 intro y hy
 cases acc with
 | nil => simp [addP] at hy;subst hy;exact hs
 | cons q r =>
  obtain ⟨a,b,t⟩ := q
  by_cases hb : b = u ∧ t = s
  · simp only [addP,hb,and_self,if_true] at hy
    rcases List.mem_cons.mp hy with rfl | hy
    · first | exact hs | exact h (a,b,t) (by simp)
    · exact h y (by simp [hy])
  · simp only [addP,hb,if_false] at hy
    rcases List.mem_cons.mp hy with rfl | hy
    · exact hs
    · exact h y hy
theorem Vh (l : List Bd) {B : Nat} (h : ∀ y ∈ l,y.2.2.length ≤ B) : ∀ y ∈ accP l,y.2.2.length ≤ B := by
 have : ∀ (l : List Bd) (acc : List Bd),(∀ y ∈ l,y.2.2.length ≤ B) → (∀ y ∈ acc,y.2.2.length ≤ B) → ∀ y ∈ l.foldl (fun acc x => addP acc x.1 x.2.1 x.2.2) acc,y.2.2.length ≤ B := by
  intro l
  induction l with
  | nil => intro acc _ ha;exact ha
  | cons x l ih =>
   intro acc hl ha;exact ih _ (fun y hy => hl y (by simp [hy])) (addP_sp ha (hl x (by simp)))
 exact this l [] h (fun y hy => by cases hy)
theorem JI {W W' : World} (h : Drawn0 W W') : ∃ m,W' = W.drewN m := by
 obtain ⟨m,hm⟩ := h;exact ⟨m,hm⟩
def rectW (b : Bd) (s : Sp) : S43 := ⟨s.1,b.1,wrap64 (s.2 - s.1),wrap64 (b.2.1 - b.1)⟩
def flatW (l : List Bd) : List S43 := l.flatMap fun b => b.2.2.map (rectW b)
def outOf (is : Bool → Bool → Bool) (a b : List S43) : List S43 := flatW (accP (bandsOf is a b (edgX (a ++ b)) (edgY (a ++ b)))).reverse
def madeE (out : List S43) : Int := if badL out = true then 7 else if 200 < out.length then 4 else 0
def madeL (out : List S43) : List S43 := if badL out = true then [] else if 200 < out.length then [] else out
theorem fl43_snoc (l : List S43) (s : S43) : fl43 (l ++ [s]) = fl43 l ++ [.int .i64 s.f0,.int .i64 s.f1,.int .i64 s.f2,.int .i64 s.f3] := by simp [fl43]
theorem reps43 (W : World) (base : Nat) (ok : Nat → Prop) (l : List S43) : Reps (k43.M W base ok) 4 l (fl43 l) := by
 have key : ∀ (r a : List S43),Reps (k43.M W base ok) 4 a (fl43 a) → Reps (k43.M W base ok) 4 (a ++ r) (fl43 (a ++ r)) := by
  intro r
  induction r with
  | nil => intro a h;simpa using h
  | cons x r ih =>
   intro a h
   have h1 : Reps (k43.M W base ok) 4 (a ++ [x]) (fl43 (a ++ [x])) := by
    have := h.snoc (Xs W base ok x) rfl
    simpa [fl43] using this
   have := ih (a ++ [x]) h1
   simpa using this
 simpa using key l [] (Reps.none _ _)
theorem Vd {W : World} {base : Nat} {v : Value} {l : List S43} (h : W.ownsRow base 43 4 v l.length (fl43 l)) : Kd.R k43 43 W base (fun _ => True) v l := ⟨fun _ _ => trivial,fl43 l,h,reps43 _ _ _ l⟩
theorem V2 {W : World} {base c : Nat} {A : Option Addr} {l : List S43} (h : W.ownsRow base 43 4 (.slice A l.length c) l.length (fl43 l)) : Kd.C k43 W A l.length l := (Kd.Z3 (Vd h)).2.2
theorem cells4_new (W : World) (a b c d : Value) (t : TypeId) : ∀ j u,[a,b,c,d][j]? = some u → (W.alloc (.cells #[a,b,c,d] t)).cell? ((⟨W.heap.size,0,none⟩ : Addr).add j) = some u := by
 intro j u h;have HB := Blk.new W #[a,b,c,d] t
 match j,h with
 | 0,h => simp at h;subst h;exact HB.cell 0 rfl
 | 1,h => simp at h;subst h;exact HB.cell 1 rfl
 | 2,h => simp at h;subst h;exact HB.cell 2 rfl
 | 3,h => simp at h;subst h;exact HB.cell 3 rfl
 | j + 4,h => simp at h
theorem cells4_at (W : World) (a b c d : Value) (t : TypeId) (n : Nat) (hn : n = W.heap.size) : ∀ j u,[a,b,c,d][j]? = some u → (W.alloc (.cells #[a,b,c,d] t)).cell? ((⟨n,0,none⟩ : Addr).add j) = some u := by
 subst hn;exact cells4_new W a b c d t
theorem Yq {B : Nat} : ∀ (l : List Bd),(∀ y ∈ l,y.2.2.length ≤ B) → (flatW l).length ≤ l.length * B
 | [],_ => by simp [flatW]
 | b :: l,h => by
  have h1 := Yq l (fun y hy => h y (by simp [hy]));have h2 := h b (by simp);have e : flatW (b :: l) = b.2.2.map (rectW b) ++ flatW l := rfl;rw [e,List.length_append,List.length_map,List.length_cons,Nat.succ_mul];omega
theorem flatW_take (l : List Bd) (i : Nat) (b : Bd) (h : l[i]? = some b) : flatW (l.take (i + 1)) = flatW (l.take i) ++ b.2.2.map (rectW b) := by
 rw [List.take_add_one,h];simp [flatW,List.flatMap_append]
theorem Jc : ∀ (l : List Sp) (j : Nat) (s : Sp),l[j]? = some s → (fl145 l)[j * 2]? = some (.int .i64 s.1) ∧ (fl145 l)[j * 2 + 1]? = some (.int .i64 s.2)
 | [],j,s,h => by cases h
 | q :: l,0,s,h => by cases h;exact ⟨rfl,rfl⟩
 | q :: l,j + 1,s,h => by
  obtain ⟨h1,h2⟩ := Jc l j s h;have e : fl145 (q :: l) = .int .i64 q.1 :: .int .i64 q.2 :: fl145 l := rfl;rw [e,show (j + 1) * 2 = j * 2 + 1 + 1 by omega];exact ⟨h1,h2⟩
set_option maxRecDepth 100000 in
set_option maxHeartbeats 8000000 in
theorem Jq (is : Bool → Bool → Bool) (gi : Nat) (eg : ∀ args w,(callFunc gi args).run Try.prog w = .ok (.enter gi args) w) (his : IsB gi is)
 (A B : Option Addr) (cA cB : Nat) (a b : List S43) (w : World) (hr : Kd.C k43 w A a.length a) (hr2 : Kd.C k43 w B b.length b) (hla : a.length ≤ 40000) (hlb : b.length ≤ 40000) :
 Calls Try.prog 73 #[.slice A a.length cA,.slice B b.length cB,.func (.func gi) #[] #[]] w fun e w' => ∃ v,e = .returned (.tuple #[v,.int .i64 (madeE (outOf is a b))]) ∧ w'.ownsRow w.heap.size 43 4 v (madeL (outOf is a b)).length (fl43 (madeL (outOf is a b))) ∧ Below w.heap.size w w' := by
 have HBC := Zb.mk (bands_calls gi A B cA cB a b (w.alloc (.cells #[.slice none 0 0] 136)) (Kd.Z9 hr _) (Kd.Z9 hr2 _) hla hlb);have HR := Zb.mk hr;have HR2 := Zb.mk hr2;clear hr hr2;refine (callsIn_wide (n := 9)).1 ?_;refine callsIn_of_wp_marks Try.func73 rfl trivial ?_ rfl;simp only [Try.ntmps73,List.size_toArray,List.length_cons,List.length_nil,Nat.reduceAdd,Nat.reduceSub,Array.replicate_succ,Array.replicate_zero,List.push_toArray,List.append_toArray,List.nil_append,List.cons_append]
 gi_wp2
 refine ⟨trivial,((callsIn_wide (n := 8)).2 HBC.out).mono ?_⟩;rintro ee w2 ⟨X,Y,cX,cY,px,py,rfl,henv,hpx,hpy,hb2⟩
 gi_wp2
 have hs1 : (w.alloc (.cells #[.slice none 0 0] 136)).heap.size = w.heap.size + 1 := by simp
 rw [hs1] at henv hpx hpy hb2;have hs2 := hb2.size;rw [hs1] at hs2;have hB2 : Below w.heap.size w w2 := ((Below.refl _ w).alloc (Nat.le_refl _) _).trans (hb2.mono (by omega));have hvb : Boxed w2 w.heap.size 136 (.slice none 0 0) := (hb2.block w.heap.size (by omega)).trans (Boxed.new w 136 _)
 have hxl : (edgX (a ++ b)).length ≤ 1000000 := by have := Qf (fun r => r.f0) (fun r => wrap64 (r.f0 + r.f2)) (a ++ b);simp at this;unfold edgX;omega
 have hyl : (edgY (a ++ b)).length ≤ 1000000 := by have := Qf (fun r => r.f1) (fun r => wrap64 (r.f1 + r.f3)) (a ++ b);simp at this;unfold edgY;omega
 obtain ⟨N,hN⟩ : ∃ N,N = w2.heap.size := ⟨_,rfl⟩
 have hwN : w.heap.size < N := by omega
 have hIt := bands3_it 8 is gi eg his A B cA cB a b (edgX (a ++ b)) (edgY (a ++ b)) X Y cX cY (w.heap.size + 1) (w.heap.size + 1 + 1) (w.heap.size + 1 + 1 + 1) px py N w.heap.size w w2 hxl hyl henv hN rfl hB2 HR.out HR2.out (by omega) (by omega) (by omega) (by omega) (by omega)
 have HSL := Zb.mk (show ∀ x ∈ bandsOf is a b (edgX (a ++ b)) (edgY (a ++ b)),x.2.2.length ≤ 1000000 from by
  intro x hx;simp only [bandsOf,bdN,List.mem_map] at hx;obtain ⟨i,_,rfl⟩ := hx;have := Ye (fun x => is (covL a x ((edgY (a ++ b)).getD i 0)) (covL b x ((edgY (a ++ b)).getD i 0))) (edgX (a ++ b)) ((edgX (a ++ b)).length - 1);simp only [spansOf,List.length_reverse]
  omega)
 have HBL := Zb.mk (show (bandsOf is a b (edgX (a ++ b)) (edgY (a ++ b))).length ≤ 1000000 from by
  rw [bandsOf,Vi];omega)
 generalize hall : bandsOf is a b (edgX (a ++ b)) (edgY (a ++ b)) = all at hIt HSL HBL;have HALL := Zb.mk hall;clear hall
 refine wpIn_rangeFunc_Q (n := 9) rfl (by omega) (gf := 141) (lb := #[.pointer (some ⟨py,0,none⟩),.pointer (some ⟨px,0,none⟩),.pointer (some ⟨w.heap.size + 1 + 1 + 1,0,none⟩),.pointer (some ⟨w.heap.size + 1,0,none⟩),.pointer (some ⟨w.heap.size + 1 + 1,0,none⟩)]) rfl trivial (enters_of Try.func141 (by kernel_rfl) rfl)
  hIt (fun W x args h => by obtain ⟨v,rfl,_⟩ := h;rfl)
  (fun A B C h h' => Qg h h') (fun W o => Q8 ((Below.refl _ W).alloc (Nat.le_refl _) o))
  (fun W l o o' hl ho => ⟨by simp [World.putObj],fun k q _ _ hk hq => (World.putObj_heap_other (fun e => by subst e;rw [hl] at hk;cases hk;rw [ho] at hq;cases hq)).trans hk⟩)
  (fun A B k o ht hk ho => (ht.block k (Array.getElem?_eq_some_iff.1 hk).1).trans hk)
  (fun pre W => ∃ LA Lc bp,MI w N (accP pre) LA Lc bp W)
  ?Ia ?Ip ?It ?I0
  (fun pre x a' W => ∃ Bx LA Lc bp vv,MI w N (accP pre) LA Lc bp W ∧ Blk W Bx #[.int .i64 x.1,.int .i64 x.2.1,vv] 142 ∧ W.ownsRow N 145 2 vv x.2.2.length (fl145 x.2.2) ∧ N ≤ Bx ∧ a' = { tmps := #[.slice A a.length cA,.slice B b.length cB,.func (.func gi) #[] #[],undef,undef,undef,.slice none 0 0,.int .i64 0,.pointer (some ⟨w.heap.size,0,none⟩),.pointer (some ⟨Bx,0,none⟩),undef,undef,undef,undef,undef,undef,.slice A a.length cA,.slice B b.length cB,.func (.func gi) #[] #[],.func (.func 141) #[] #[.pointer (some ⟨py,0,none⟩),.pointer (some ⟨px,0,none⟩),.pointer (some ⟨w.heap.size + 1 + 1 + 1,0,none⟩),.pointer (some ⟨w.heap.size + 1,0,none⟩),.pointer (some ⟨w.heap.size + 1 + 1,0,none⟩)],.agg #[.int .i64 x.1,.int .i64 x.2.1,vv],undef,undef,undef,undef,undef,undef,undef,undef,undef,undef,undef,undef,undef,undef,undef,undef,undef,undef,undef,undef,undef,undef,undef,undef,undef,undef,undef,undef,undef,undef,undef,undef,undef,undef,undef,undef,undef,undef,undef,undef,undef,undef,undef,undef,undef,undef,undef,undef,undef,undef,undef,undef,undef,undef,undef,undef,undef,undef,undef,undef,undef,undef,undef,undef,undef,undef,undef,undef,undef,undef,undef,undef,undef,undef,undef,undef],defers := [] })
  ?Axp ?assign ?body ?done
 case Ia => rintro pre W o ⟨LA,Lc,bp,h⟩;exact ⟨LA,Lc,bp,h.alloc o⟩
 case Ip => rintro pre W l o o' ⟨LA,Lc,bp,h⟩ hl ho hc;exact ⟨LA,Lc,bp,h.put hwN o' (by omega) ho hc⟩
 case It => rintro pre A B ⟨LA,Lc,bp,h⟩ ht;exact ⟨LA,Lc,bp,h.bel ht⟩
 case I0 => exact ⟨none,0,[],⟨hvb,World.ownsRow_nil _ _ _ _,(fun p hp => absurd hp (by simp)),rfl,hB2,by omega⟩⟩
 case Axp =>
  rintro pre x a' W l o o' ⟨Bx,LA,Lc,bp,vv,h,hx,hs,hB,rfl⟩ hl ho hc;exact ⟨Bx,LA,Lc,bp,vv,h.put hwN o' (by omega) ho hc,hx.same (World.putObj_heap_other (fun e => by unfold Blk at hx;rw [← e,hx] at ho;cases ho;cases hc)),ownsRow_putObj hs o' ho hc,hB,rfl⟩
 case assign =>
  rintro l pre x args W K ⟨LA,Lc,bp,h⟩ ⟨vv,rfl,hs⟩ hK;obtain ⟨Av,cv,rfl⟩ := Qc hs
  gi_wp2
  refine hK _ _ ⟨W.heap.size,LA,Lc,bp,_,h.alloc _,Blk.new W _ _,hs.alloc _,h.sz,rfl⟩ (KeepsOthers.alloc _ _) (Q8 ((Below.refl _ W).alloc (Nat.le_refl _) _))
 case body =>
  rintro l pre x a' W ⟨Bx,LA,Lc,bp,vv,hM,hx,hs,hB,rfl⟩ ⟨rest,hrest⟩
  have hmix : Try.prog.follows .mixedOrders = true := by kernel_rfl
  have hn2 : 1 ≤ 9 - 1 - 1 := by omega
  have hwf : Fence.wide.fn 125 := trivial;have hwg : (Fence.wide.fn 125) = True := rfl
  have hxm : x ∈ all := by rw [← hrest];simp
  have hsl := HSL.out x hxm
  have hpl : pre.length ≤ 1000000 := by have := HBL.out;rw [← hrest] at this;simp at this;omega
  have hbl : bp.length ≤ 1000000 := by
   have h1 := congrArg List.length hM.acc_;simp only [List.length_map,List.length_reverse] at h1;have := YR pre;omega
  have hsn := accP_snoc pre x
  have hpre : ∀ y ∈ pre,y.2.2.length ≤ 1000000 := fun y hy => HSL.out y (by rw [← hrest];simp [hy])
  obtain ⟨u,v,s⟩ := x;simp only at hx hs hsl hsn;obtain ⟨Av,cv,rfl⟩ := Qc hs;have z0 := hx.cell 0 (v := .int .i64 u) rfl;have z1 := hx.cell 1 (v := .int .i64 v) rfl;have z2 := hx.cell 2 (v := .slice Av s.length cv) rfl;obtain ⟨i2,hi2,hz20,hz21,hz22⟩ := info_parts info142
  rcases List.eq_nil_or_concat bp with rfl | ⟨bp0,pq,hbq⟩
  · have cl := hM.vb.cell
    simp only [List.length_nil] at cl
    have h63 : 0 + 1 ≤ maxLen := by decide
    have hbytes : (0 + 1) * 40 ≤ 140737488355328 := by decide
    have hnil : accP pre = [] := by have := hM.acc_;simpa using this.symm
    have hne : addP (accP pre) u v s = (u,v,s) :: accP pre := by rw [hnil];rfl
    gi_wp2
    refine XO (F := Fence.wide) rfl hmix (by kernel_rfl) (by kernel_rfl) ?_
    repeat (gi_big_quiet_step (fail))
    refine wpQuietIn_nil ?_;intro _ hw';obtain ⟨nq,hw''⟩ := hw';subst hw'';have hMd := hM.bel (Za (Below.refl W.heap.size W) nq);have hsd := XI hs (Za (Below.refl W.heap.size W) nq);have hrowd : (W.drewN nq).ownsRow N 142 3 (.slice LA 0 Lc) 0 [] := hMd.row;have hvbd : Boxed (W.drewN nq) w.heap.size 136 (.slice LA 0 Lc) := hMd.vb
    have hbase : N ≤ ((W.drewN nq).alloc (.cells #[.int .i64 u,.int .i64 v,.slice Av s.length cv] 142)).heap.size := by have := hMd.sz;simp;simpa using Nat.le_succ_of_le this
    have hge : ∀ k,(Value.slice LA 0 Lc).ownBlock = some k → N ≤ k := fun k hk => (Xm hMd.row (k := k) hk).1
    gi_wp2_with (first
     | (gi_at_builtin;refine wpListIn_append_own _ rfl _ _ 136 rfl N 142 i2 (.agg #[.int .i64 0,.int .i64 0,.slice none 0 0]) 3 40 Try.underlying136 hi2 hz20 hz21 hz22 rfl (by decide) _ _ _ rfl (hrowd.alloc _) ⟨W.heap.size,0,none⟩ 1 1 [.int .i64 u,.int .i64 v,.slice Av s.length cv] rfl rfl (QV (W.drewN nq) _ _ _ _) (by simp [Value.oneCell']) h63 hbytes hbase ?_;intro v' w1 hown hgrow _;obtain ⟨g',cap',rfl⟩ := ownsRow_succ hown;have vb1 : Boxed w1 w.heap.size 136 (.slice LA 0 Lc) := (hvbd.alloc _).kept hgrow (fun e => by have := hge _ e.symm;omega);have hc1 := vb1.cell;have hf1 := vb1.frozen))
    have R := MI.app hMd hwN (x := (u,v,s)) (c2 := cap') hsd hne hgrow hown;obtain ⟨R1,R2,R3⟩ := R;rw [show (([] : List (Bd × Value)) ++ [((u,v,s),Value.slice Av s.length cv)]).length = 1 from rfl] at R1 R2 R3;refine ⟨(show KeepsOthers W (W.drewN nq) from ⟨Nat.le_refl _,fun _ _ h _ => h⟩).trans R2,⟨_,_,_,hsn ▸ R1⟩,Qg (Q8 (Za (Below.refl W.heap.size W) nq)) R3⟩
  · rw [List.concat_eq_append] at hbq
    subst hbq;obtain ⟨⟨qa,qb,qt⟩,pv⟩ := pq;have hsp : W.ownsRow N 145 2 pv qt.length (fl145 qt) := hM.sps ((qa,qb,qt),pv) (by simp);obtain ⟨At,ct,hpv⟩ := Qc hsp;subst hpv
    have hln : (bp0 ++ [((qa,qb,qt),Value.slice At qt.length ct)]).length = bp0.length + 1 := by simp
    have hrow0 := hM.row;have hvb0 := hM.vb;rw [hln] at hrow0 hvb0 hbl;obtain ⟨g,rfl⟩ := Q4 hrow0 (by omega);have cl := hvb0.cell;obtain ⟨lb,lc⟩ := flB_last bp0 ((qa,qb,qt),Value.slice At qt.length ct);obtain ⟨kb,fb⟩ := XK hrow0 lb;obtain ⟨kc,fc⟩ := XK hrow0 lc;simp only at kb kc
    have hacc : accP pre = (qa,qb,qt) :: (bp0.map (·.1)).reverse := by
     have h := congrArg List.reverse hM.acc_;simp only [List.map_append,List.map_cons,List.map_nil,List.reverse_append,List.reverse_cons,List.reverse_nil,List.nil_append,List.singleton_append,List.reverse_reverse] at h;exact h.symm
    have h63 : bp0.length + 1 + 1 ≤ maxLen := by unfold maxLen;omega
    have hbytes : (bp0.length + 1 + 1) * 40 ≤ 140737488355328 := by omega
    have hqtl : qt.length ≤ 1000000 := by
     have hm : (qa,qb,qt) ∈ accP pre := by rw [hacc];simp
     exact Vh pre hpre _ hm
    have HEQ : ∀ k,Calls Try.prog 125 #[.slice At qt.length ct,.slice Av s.length cv] (W.drewN k) fun e w' => e = .returned (.bool (decide (qt = s))) ∧ Drawn0 (W.drewN k) w' := fun k => same125 (XI hsp (Za (Below.refl _ _) k)) rfl (XI hs (Za (Below.refl _ _) k)) rfl hqtl
    have i0 : (0 : Int) ≤ (bp0.length : Int) := by omega
    have i1 : (bp0.length : Int) < ((bp0.length + 1 : Nat) : Int) := by omega
    by_cases hbu : qb = u
    · have hbub : (qb == u) = true := by simpa using hbu
      by_cases hts : qt = s
      · have htd : decide (qt = s) = true := decide_eq_true hts
        simp only [htd] at HEQ
        have had : addP ((qa,qb,qt) :: (bp0.map (·.1)).reverse) u v s = (qa,v,qt) :: (bp0.map (·.1)).reverse := by simp [addP,hbu,hts]
        have HAD := Zb.mk had;clear had hts htd
        gi_wp2
        refine XO (F := Fence.wide) rfl hmix (by kernel_rfl) (by kernel_rfl) ?_
        repeat (gi_big_quiet_step ((exact CallsIn.quiet_of ((callsIn_wide.2 (HEQ _)).mono (fun e w' h => And.intro h.1 (JI h.2))))))
        refine wpQuietIn_nil ?_;intro _ hw';obtain ⟨nq,hw''⟩ := hw';subst hw'';have hMd := hM.bel (Za (Below.refl W.heap.size W) nq);have hsd := XI hs (Za (Below.refl W.heap.size W) nq);have kbd : (W.drewN nq).cell? ⟨g,bp0.length * 3 + 1,none⟩ = some (.int .i64 qb) := kb;have fbd : (W.drewN nq).frozen? ⟨g,bp0.length * 3 + 1,none⟩ = false := fb;rw [hacc] at hMd hsn;have R := MI.mrg (v := v) hMd hwN;obtain ⟨R1,R2,R3⟩ := R;rw [HAD.out] at hsn
        gi_wp2
        refine ⟨(show KeepsOthers W (W.drewN nq) from ⟨Nat.le_refl _,fun _ _ h _ => h⟩).trans R2,⟨_,_,_,hsn ▸ R1⟩,Qg (Q8 (Za (Below.refl W.heap.size W) nq)) R3⟩
      · have htd : decide (qt = s) = false := decide_eq_false hts
        simp only [htd] at HEQ
        have hne : addP (accP pre) u v s = (u,v,s) :: accP pre := by rw [hacc];simp [addP,hts]
        gi_wp2
        refine XO (F := Fence.wide) rfl hmix (by kernel_rfl) (by kernel_rfl) ?_
        repeat (gi_big_quiet_step ((exact CallsIn.quiet_of ((callsIn_wide.2 (HEQ _)).mono (fun e w' h => And.intro h.1 (JI h.2))))))
        refine wpQuietIn_nil ?_;intro _ hw';obtain ⟨nq,hw''⟩ := hw';subst hw'';have hMd := hM.bel (Za (Below.refl W.heap.size W) nq);have hsd := XI hs (Za (Below.refl W.heap.size W) nq);have hrowd : (W.drewN nq).ownsRow N 142 3 (.slice (some ⟨g,0,none⟩) (bp0.length + 1) Lc) (bp0.length + 1) (flB (bp0 ++ [((qa,qb,qt),.slice At qt.length ct)])) := hrow0;have hvbd : Boxed (W.drewN nq) w.heap.size 136 (.slice (some ⟨g,0,none⟩) (bp0.length + 1) Lc) := hvb0
        have hbase : N ≤ ((W.drewN nq).alloc (.cells #[.int .i64 u,.int .i64 v,.slice Av s.length cv] 142)).heap.size := by have := hMd.sz;simp;simpa using Nat.le_succ_of_le this
        have hge : ∀ k,(Value.slice (some ⟨g,0,none⟩) (bp0.length + 1) Lc).ownBlock = some k → N ≤ k := fun k hk => (Xm hrowd (k := k) hk).1
        gi_wp2_with (first
         | (gi_at_builtin;refine wpListIn_append_own _ rfl _ _ 136 rfl N 142 i2 (.agg #[.int .i64 0,.int .i64 0,.slice none 0 0]) 3 40 Try.underlying136 hi2 hz20 hz21 hz22 rfl (by decide) _ _ _ rfl (hrowd.alloc _) ⟨W.heap.size,0,none⟩ 1 1 [.int .i64 u,.int .i64 v,.slice Av s.length cv] rfl rfl (QV (W.drewN nq) _ _ _ _) (by simp [Value.oneCell']) h63 hbytes hbase ?_;intro v' w1 hown hgrow _;obtain ⟨g',cap',rfl⟩ := ownsRow_succ hown;have vb1 : Boxed w1 w.heap.size 136 (.slice (some ⟨g,0,none⟩) (bp0.length + 1) Lc) := (hvbd.alloc _).kept hgrow (fun e => by have := hge _ e.symm;omega);have hc1 := vb1.cell;have hf1 := vb1.frozen))
        have R := MI.app hMd hwN (x := (u,v,s)) (c2 := cap') hsd hne (by rw [hln];exact hgrow) (A2 := some ⟨g',0,none⟩) (by rw [hln];exact hown);obtain ⟨R1,R2,R3⟩ := R;rw [show ((bp0 ++ [((qa,qb,qt),Value.slice At qt.length ct)]) ++ [((u,v,s),Value.slice Av s.length cv)]).length = bp0.length + 1 + 1 by simp] at R1 R2 R3;refine ⟨(show KeepsOthers W (W.drewN nq) from ⟨Nat.le_refl _,fun _ _ h _ => h⟩).trans R2,⟨_,_,_,hsn ▸ R1⟩,Qg (Q8 (Za (Below.refl W.heap.size W) nq)) R3⟩
    · have hbub : (qb == u) = false := by simpa using hbu
      have hne : addP (accP pre) u v s = (u,v,s) :: accP pre := by rw [hacc];simp [addP,hbu]
      gi_wp2
      refine XO (F := Fence.wide) rfl hmix (by kernel_rfl) (by kernel_rfl) ?_
      repeat (gi_big_quiet_step (fail))
      refine wpQuietIn_nil ?_;intro _ hw';obtain ⟨nq,hw''⟩ := hw';subst hw'';have hMd := hM.bel (Za (Below.refl W.heap.size W) nq);have hsd := XI hs (Za (Below.refl W.heap.size W) nq);have hrowd : (W.drewN nq).ownsRow N 142 3 (.slice (some ⟨g,0,none⟩) (bp0.length + 1) Lc) (bp0.length + 1) (flB (bp0 ++ [((qa,qb,qt),.slice At qt.length ct)])) := hrow0;have hvbd : Boxed (W.drewN nq) w.heap.size 136 (.slice (some ⟨g,0,none⟩) (bp0.length + 1) Lc) := hvb0
      have hbase : N ≤ ((W.drewN nq).alloc (.cells #[.int .i64 u,.int .i64 v,.slice Av s.length cv] 142)).heap.size := by have := hMd.sz;simp;simpa using Nat.le_succ_of_le this
      have hge : ∀ k,(Value.slice (some ⟨g,0,none⟩) (bp0.length + 1) Lc).ownBlock = some k → N ≤ k := fun k hk => (Xm hrowd (k := k) hk).1
      gi_wp2_with (first
       | (gi_at_builtin;refine wpListIn_append_own _ rfl _ _ 136 rfl N 142 i2 (.agg #[.int .i64 0,.int .i64 0,.slice none 0 0]) 3 40 Try.underlying136 hi2 hz20 hz21 hz22 rfl (by decide) _ _ _ rfl (hrowd.alloc _) ⟨W.heap.size,0,none⟩ 1 1 [.int .i64 u,.int .i64 v,.slice Av s.length cv] rfl rfl (QV (W.drewN nq) _ _ _ _) (by simp [Value.oneCell']) h63 hbytes hbase ?_;intro v' w1 hown hgrow _;obtain ⟨g',cap',rfl⟩ := ownsRow_succ hown;have vb1 : Boxed w1 w.heap.size 136 (.slice (some ⟨g,0,none⟩) (bp0.length + 1) Lc) := (hvbd.alloc _).kept hgrow (fun e => by have := hge _ e.symm;omega);have hc1 := vb1.cell;have hf1 := vb1.frozen))
      have R := MI.app hMd hwN (x := (u,v,s)) (c2 := cap') hsd hne (by rw [hln];exact hgrow) (A2 := some ⟨g',0,none⟩) (by rw [hln];exact hown);obtain ⟨R1,R2,R3⟩ := R;rw [show ((bp0 ++ [((qa,qb,qt),Value.slice At qt.length ct)]) ++ [((u,v,s),Value.slice Av s.length cv)]).length = bp0.length + 1 + 1 by simp] at R1 R2 R3;refine ⟨(show KeepsOthers W (W.drewN nq) from ⟨Nat.le_refl _,fun _ _ h _ => h⟩).trans R2,⟨_,_,_,hsn ▸ R1⟩,Qg (Q8 (Za (Below.refl W.heap.size W) nq)) R3⟩
 case done =>
  rintro D W ⟨LA,Lc,bp,hM⟩ hD hK
  have hout : outOf is a b = flatW (bp.map (·.1)) := by
   rw [outOf,HALL.out,← hM.acc_]
  have hbl : bp.length ≤ 1000000 := by
   have h1 := congrArg List.length hM.acc_;simp only [List.length_map,List.length_reverse] at h1;have := YR all;have := HBL.out;omega
  have hsp : ∀ y ∈ bp.map (·.1),y.2.2.length ≤ 1000000 := by
   intro y hy;rw [hM.acc_] at hy;exact Vh all HSL.out y (by simpa using hy)
  have HOUT := Zb.mk hout;have HM := Zb.mk hM;have HSP := Zb.mk hsp;have HK := Zb.mk hK;have cl := hM.vb.cell;have hDl : D < W.heap.size := (Array.getElem?_eq_some_iff.1 hK).1;clear hout hM hsp hK HALL HSL HBL;obtain ⟨i43,hi,hz0,hz1,hz2⟩ := info_parts info43
  gi_wp2
  refine wpIn_wide.2 ?_
  go_loopw [11,13,15,58] (fun s11 s13 s15 s58 wr => ∃ (i : Nat) (A7 : Option Addr) (c7 : Nat),i ≤ bp.length ∧ s58 = .int .i64 i ∧ s11 = .slice A7 (flatW ((bp.map (·.1)).take i)).length c7 ∧ Zb (wr.ownsRow W.heap.size 43 4 (.slice A7 (flatW ((bp.map (·.1)).take i)).length c7) (flatW ((bp.map (·.1)).take i)).length (fl43 (flatW ((bp.map (·.1)).take i)))) ∧ Zb (Below W.heap.size W wr))
   (fun s11 s13 s15 s58 wr => bp.length - (intOf s58).toNat)
  case atStart => exact ⟨0,none,0,Nat.zero_le _,rfl,rfl,⟨World.ownsRow_nil _ _ _ _⟩,⟨Below.refl _ _⟩⟩
  case round =>
   obtain ⟨i,A7,c7,hi7,rfl,rfl,HO,HB⟩ := hrel;have hsz := HB.out.size
   have hol : (flatW ((bp.map (·.1)).take i)).length ≤ 1000000 * 1000000 := by
    have h1 := Yq ((bp.map (·.1)).take i) (B := 1000000) (fun y hy => HSP.out y (List.mem_of_mem_take hy))
    have h2 : ((bp.map (·.1)).take i).length ≤ 1000000 := by simp;omega
    exact Nat.le_trans h1 (Nat.mul_le_mul_right _ h2)
   by_cases hlt : i < bp.length
   · have hltz : (i : Int) < (bp.length : Int) := by omega
     have e0 : (0 : Int) ≤ (i : Int) := by omega
     obtain ⟨bb,hbb⟩ : ∃ bb,bp[i]? = some bb := ⟨bp[i],List.getElem?_eq_getElem hlt⟩
     obtain ⟨⟨u,v,s⟩,pv⟩ := bb;have hmem : ((u,v,s),pv) ∈ bp := List.mem_of_getElem? hbb;have hrs : W.ownsRow N 145 2 pv s.length (fl145 s) := HM.out.sps _ hmem;obtain ⟨At,ct,hpv⟩ := Qc hrs;subst hpv;have hsl : s.length ≤ 1000000 := HSP.out (u,v,s) (List.mem_map_of_mem (f := (·.1)) hmem);have hft := flatW_take (bp.map (·.1)) i (u,v,s) (by rw [List.getElem?_map,hbb];rfl);have hrow := HM.out.row;obtain ⟨g,hg⟩ := Q4 hrow (by omega);subst hg;obtain ⟨l0,l1,l2⟩ := Vw bp i _ hbb;have hgW := (Xm hrow (k := g) rfl).2
     have hq : ∀ (o : Nat) (x : Value),W.cell? ⟨g,o,none⟩ = some x → wr.cell? ⟨g,o,none⟩ = some x := fun o x h => (HB.out.cell (p := ⟨g,o,none⟩) hgW).trans h
     have k0 := hq _ _ (XK hrow l0).1;have k1 := hq _ _ (XK hrow l1).1;have k2 := hq _ _ (XK hrow l2).1;simp only at k0 k1 k2;have HRS := Zb.mk hrs;have HFT := Zb.mk hft;generalize hol7 : flatW ((bp.map (·.1)).take i) = o7 at HO hol HFT ⊢;clear hrs hft hrow l0 l1 l2 hq hmem hbb hol7;have HX := Zb.mk (Blk.new wr #[.int .i64 u,.int .i64 v,.slice At s.length ct] 142);have c0 := HX.out.cell 0 (v := .int .i64 u) rfl;have c1 := HX.out.cell 1 (v := .int .i64 v) rfl;have c2 := HX.out.cell 2 (v := .slice At s.length ct) rfl
     have HB1 : Zb (Below W.heap.size W (wr.alloc (.cells #[.int .i64 u,.int .i64 v,.slice At s.length ct] 142))) := ⟨HB.out.alloc hsz _⟩
     have HO1 := Zb.mk (HO.out.alloc (.cells #[.int .i64 u,.int .i64 v,.slice At s.length ct] 142))
     go_wp2
     obtain ⟨xb,hxb⟩ : ∃ xb,xb = wr.heap.size := ⟨_,rfl⟩
     rw [← hxb] at HX ⊢;clear hxb c0 c1 c2 k0 k1 k2
     go_loopw [11,15,65] (fun s11 s15 s65 w8 => ∃ (j : Nat) (A8 : Option Addr) (c8 : Nat),j ≤ s.length ∧ s65 = .int .i64 j ∧ s11 = .slice A8 (o7 ++ (s.take j).map (rectW (u,v,s))).length c8 ∧ Zb (w8.ownsRow W.heap.size 43 4 (.slice A8 (o7 ++ (s.take j).map (rectW (u,v,s))).length c8) (o7 ++ (s.take j).map (rectW (u,v,s))).length (fl43 (o7 ++ (s.take j).map (rectW (u,v,s))))) ∧ Zb (Below W.heap.size W w8) ∧ Zb (Blk w8 xb #[.int .i64 u,.int .i64 v,.slice At s.length ct] 142))
      (fun s11 s15 s65 w8 => s.length - (intOf s65).toNat)
     case atStart => exact ⟨0,A7,c7,Nat.zero_le _,rfl,by simp,⟨by simpa using HO1.out⟩,HB1,HX⟩
     case round =>
      obtain ⟨j,A8,c8,hj8,rfl,rfl,HO8,HB8,HX8⟩ := hrel;have hsz8 := HB8.out.size;have hx0 := HX8.out.cell 0 (v := .int .i64 u) rfl;have hx1 := HX8.out.cell 1 (v := .int .i64 v) rfl
      by_cases hlt2 : j < s.length
      · have hltz2 : (j : Int) < (s.length : Int) := by omega
        have e1 : (0 : Int) ≤ (j : Int) := by omega
        obtain ⟨q,hqj⟩ : ∃ q,s[j]? = some q := ⟨s[j],List.getElem?_eq_getElem hlt2⟩
        obtain ⟨gs,hgs⟩ := Q4 HRS.out (by omega);subst hgs;obtain ⟨m0,m1⟩ := Jc s j q hqj;have hgsW := (Xm HRS.out (k := gs) rfl).2;have n0 := (HB8.out.cell (p := ⟨gs,j * 2,none⟩) hgsW).trans (XK HRS.out m0).1;have n1 := (HB8.out.cell (p := ⟨gs,j * 2 + 1,none⟩) hgsW).trans (XK HRS.out m1).1
        have HTK : Zb (o7 ++ (s.take (j + 1)).map (rectW (u,v,s)) = (o7 ++ (s.take j).map (rectW (u,v,s))) ++ [rectW (u,v,s) q]) := ⟨by rw [List.take_add_one,hqj];simp⟩
        have hol8 : (o7 ++ (s.take j).map (rectW (u,v,s))).length ≤ 1000000 * 1000000 + 1000000 := by simp;omega
        obtain ⟨q0,q1⟩ := q;simp only at n0 n1;clear hqj m0 m1;generalize hoo : o7 ++ (s.take j).map (rectW (u,v,s)) = oo at HO8 HTK hol8 ⊢;clear hoo;have HS := Zb.mk (Blk.new wr #[.int .i64 q0,.int .i64 q1] 145);have p0 := HS.out.cell 0 (v := .int .i64 q0) rfl;have p1 := HS.out.cell 1 (v := .int .i64 q1) rfl;have hx0' := (HX8.out.alloc (.cells #[.int .i64 q0,.int .i64 q1] 145)).cell 0 (v := .int .i64 u) rfl;have hx1' := (HX8.out.alloc (.cells #[.int .i64 q0,.int .i64 q1] 145)).cell 1 (v := .int .i64 v) rfl
        go_wp2_with (at_builtin;(refine wpList_append_own _ rfl (.tmp 69) (.tmp 85) 22 rfl W.heap.size 43 i43 (.agg #[.int .i64 0,.int .i64 0,.int .i64 0,.int .i64 0]) 4 32 Try.underlying22 hi hz0 hz1 hz2 rfl (by decide) (.slice A8 oo.length c8) oo.length (fl43 oo) rfl ((HO8.out.alloc _).alloc _) ⟨wr.heap.size + 1,0,none⟩ 1 1 [.int .i64 q0,.int .i64 u,.int .i64 (wrap64 (q1 - q0)),.int .i64 (wrap64 (v - u))] rfl rfl ?c1 ?c2 ?c3 ?c4 ?c5 ?_;(case c1 => refine cells4_at _ _ _ _ _ _ _ ?_;simp);(case c2 => intro u hu;simp only [List.mem_cons,List.not_mem_nil,or_false] at hu;rcases hu with rfl | rfl | rfl | rfl <;> rfl);(case c3 => unfold maxLen;omega);(case c4 => omega);(case c5 => simp;omega);intro v' w9 hown hgr _;have HO9 := Zb.mk hown;have HG9 := Zb.mk hgr;clear hown hgr))
        have hge : ∀ k,(Value.slice A8 oo.length c8).ownBlock = some k → W.heap.size ≤ k := fun k hk => (Xm HO8.out (k := k) hk).1
        obtain ⟨A9,c9,hv9⟩ := Qc HO9.out;subst hv9
        have hlen : (o7 ++ (s.take (j + 1)).map (rectW (u,v,s))).length = oo.length + 1 := by rw [HTK.out];simp
        have hfl : fl43 (o7 ++ (s.take (j + 1)).map (rectW (u,v,s))) = fl43 oo ++ [.int .i64 q0,.int .i64 u,.int .i64 (wrap64 (q1 - q0)),.int .i64 (wrap64 (v - u))] := by rw [HTK.out,fl43_snoc];rfl
        have hxk : Blk w9 xb #[.int .i64 u,.int .i64 v,.slice (some ⟨gs,0,none⟩) s.length ct] 142 := by
         have hx2 := (HX8.out.alloc (.cells #[.int .i64 q0,.int .i64 q1] 145)).alloc (.cells #[.int .i64 q0,.int .i64 u,.int .i64 (wrap64 (q1 - q0)),.int .i64 (wrap64 (v - u))] 43);refine hx2.same (HG9.out.block _ hx2.lt (fun e => ?_));obtain ⟨c3,h3⟩ := XM HO8.out xb e.symm;have h4 := HX8.out;unfold Blk at h4;rw [h3] at h4
         cases h4
        have hb9 : Below W.heap.size W w9 := X3 ((HB8.out.alloc hsz8 _).alloc (by simp;omega) _) (by simp;omega) HG9.out hge
        go_roundw
        case rel => exact ⟨j + 1,A9,c9,by omega,by go_num,by rw [hlen],⟨by rw [hlen,hfl];exact HO9.out⟩,⟨hb9⟩,⟨hxk⟩⟩
        case measure => simp [intOf];omega
      · obtain rfl : j = s.length := by omega
        have hltz2 : ¬ (s.length : Int) < (s.length : Int) := by omega
        rw [List.take_length] at HO8;rw [List.take_length];rw [← HFT.out] at HO8 ⊢
        go_wp2
        go_roundw
        case rel => exact ⟨i + 1,A8,c8,by omega,by go_num,rfl,HO8,HB8⟩
        case measure => simp [intOf];omega
   · obtain rfl : i = bp.length := by omega
     have hltz : ¬ (bp.length : Int) < (bp.length : Int) := by omega
     rw [List.take_of_length_le (by simp)] at HO;rw [List.take_of_length_le (by simp)] at hol;rw [List.take_of_length_le (by simp)];rw [← HOUT.out] at HO hol ⊢;generalize hoe : outOf is a b = out at HO hol HOUT ⊢;have HOE := Zb.mk hoe;clear hoe;have HBAD := Zb.mk (bad126_calls A7 c7 out wr (V2 HO.out))
     have HKr : Zb (wr.heap[D]? = some (.deferred (some []))) := ⟨(HB.out.block D hDl).trans HK.out⟩
     have HPB := fun (w' : World) (hb : Below wr.heap.size wr w') => Zb.mk (show w'.heap[D]? = some (.deferred (some [])) ∧ w'.ownsRow W.heap.size 43 4 (.slice A7 out.length c7) out.length (fl43 out) ∧ Below w.heap.size w w' from ⟨(hb.block D (Array.getElem?_eq_some_iff.1 HKr.out).1).trans HKr.out,XI HO.out hb,HM.out.bl.trans ((HB.out.trans (hb.mono hsz)).mono HM.out.bl.size)⟩)
     cases hbad : badL out with
     | true =>
      rw [hbad] at HBAD
      go_wp2
      refine wpIn_wide.2 ?_
      go_wp2_with (first | (go_at_call 70;refine HBAD.out.mono ?_;rintro e w9 ⟨rfl,hb9⟩))
      obtain ⟨hK9,hr9,hB9⟩ := (HPB w9 hb9).out;show LeavesInM Fence.wide 9 Try.prog Try.f73 _ _ _ _ _;refine ⟨by simp,.inl ⟨D,_,rfl,run_takeDeferred hK9,?_⟩⟩;refine ⟨.tuple #[.slice none 0 0,.int .i64 7],by simp [results,Try.results73,go_sem],?_⟩;rw [HOE.out];refine ⟨_,by rw [show madeE out = 7 from by simp [madeE,hbad]],?_,hB9.grown (grownBy_putObj' _ D _) hB9.size (fun k ek => by cases ek;omega)⟩;rw [show madeL out = [] from by simp [madeL,hbad]];exact World.ownsRow_nil _ _ _ _
     | false =>
      rw [hbad] at HBAD
      by_cases h200 : 200 < out.length
      · have h2b : decide ((out.length : Int) > 200) = true := decide_eq_true (by omega)
        go_wp2
        refine wpIn_wide.2 ?_
        go_wp2_with (first | (go_at_call 70;refine HBAD.out.mono ?_;rintro e w9 ⟨rfl,hb9⟩))
        obtain ⟨hK9,hr9,hB9⟩ := (HPB w9 hb9).out;show LeavesInM Fence.wide 9 Try.prog Try.f73 _ _ _ _ _;refine ⟨by simp,.inl ⟨D,_,rfl,run_takeDeferred hK9,?_⟩⟩;refine ⟨.tuple #[.slice none 0 0,.int .i64 4],by simp [results,Try.results73,go_sem],?_⟩;rw [HOE.out];refine ⟨_,by rw [show madeE out = 4 from by simp [madeE,hbad,h200]],?_,hB9.grown (grownBy_putObj' _ D _) hB9.size (fun k ek => by cases ek;omega)⟩;rw [show madeL out = [] from by simp [madeL,hbad,h200]];exact World.ownsRow_nil _ _ _ _
      · have h2b : decide ((out.length : Int) > 200) = false := decide_eq_false (by omega)
        go_wp2
        refine wpIn_wide.2 ?_
        go_wp2_with (first | (go_at_call 70;refine HBAD.out.mono ?_;rintro e w9 ⟨rfl,hb9⟩))
        obtain ⟨hK9,hr9,hB9⟩ := (HPB w9 hb9).out;show LeavesInM Fence.wide 9 Try.prog Try.f73 _ _ _ _ _;refine ⟨by simp,.inl ⟨D,_,rfl,run_takeDeferred hK9,?_⟩⟩;refine ⟨.tuple #[.slice A7 out.length c7,.int .i64 0],by simp [results,Try.results73,go_sem],?_⟩;rw [HOE.out];refine ⟨_,by rw [show madeE out = 0 from by simp [madeE,hbad,h200]],?_,hB9.grown (grownBy_putObj' _ D _) hB9.size (fun k ek => by cases ek;omega)⟩;rw [show madeL out = out from by simp [madeL,hbad,h200]];exact ownsRow_putObj (Yd hr9 HM.out.bl.size) _ hK9 rfl
end Go.Proofs.Ythbajahklnpkcaa.PA

namespace Go.Proofs.Ythbajahklnpkcaa.PA
open Go.RowKit Go.Shelf Go.Sort Go.Proofs.YthbajahklnpkcaaW.PrintWords Go.Proofs.YthbajahklnpkcaaW.PrintLast Go.Proofs.YthbajahklnpkcaaW.PrintMore
set_option linter.unusedVariables false
set_option linter.unusedSimpArgs false
def orB (p q : Bool) : Bool := p || q
def andB (p q : Bool) : Bool := p && q
def lessB (p q : Bool) : Bool := p && !q
theorem enters59 : ∀ args w,(callFunc 59 args).run Try.prog w = .ok (.enter 59 args) w := Go.Proofs.enters_of Try.func59 (by kernel_rfl) rfl
theorem is59 : IsB 59 orB := by
 intro W p q
 cases p <;> cases q <;> (go_enter Try.func59,Try.ntmps59;go_wp2;go_ret;exact ⟨rfl,Below.refl _ _⟩)
theorem J5 (w : World) (A : Option Addr) : Kd.C k43 w A 0 [] := ⟨rfl,by omega,fun h => absurd h (by omega)⟩
def regionE (l : List S43) : Int := if badL l = true then 1 else if 200 < l.length then 4 else madeE (outOf orB l [])
def regionL (l : List S43) : List S43 := if badL l = true then [] else if 200 < l.length then [] else madeL (outOf orB l [])
def Xc.f (l0 : List S43) : Option (List S43 × Int) := if l0.length ≤ 40000 then some (regionL l0,regionE l0) else none
set_option maxHeartbeats 2000000 in
theorem Xc.calls (A0 : Option Addr) (c0 : Nat) (l0 : List S43) (r1 : List S43) (r2 : Int) (w : World) (hr0 : Kd.C k43 w A0 l0.length l0) (hc0 : l0.length ≤ c0) (h : Xc.f l0 = some (r1,r2)) :
 Calls Try.prog 20 #[.slice A0 l0.length c0] w fun e w' => ∃ v0_ : Value,e = .returned (.tuple #[v0_,.int .i64 r2]) ∧ Kd.R k43 43 w' w.heap.size (fun _ => True) v0_ r1 ∧ Below w.heap.size w w' := by
 unfold Xc.f at h
 by_cases hl : l0.length ≤ 40000
 · rw [if_pos hl] at h
   obtain ⟨rfl,rfl⟩ := Prod.mk.injEq .. ▸ (Option.some.inj h);have HB := Zb.mk (bad71_calls A0 c0 l0 w hr0);have HR := Zb.mk hr0;clear hr0 h
   cases hb : badL l0 with
   | true =>
    rw [hb] at HB
    go_enter Try.func20,Try.ntmps20
    go_wp2_with (first | (go_at_call 70;refine HB.out.mono ?_;rintro e w1 ⟨rfl,hb1⟩))
    refine bodyPost_ret (v := .tuple #[.slice none 0 0,.int .i64 1]) (by simp [results,Try.results20,go_sem]) rfl ⟨_,by rw [show regionE l0 = 1 from by simp [regionE,hb]],?_,hb1⟩;rw [show regionL l0 = [] from by simp [regionL,hb]];exact Kd.R_nil _ _ _ _ _
   | false =>
    rw [hb] at HB
    by_cases h2 : 200 < l0.length
    · have h2b : decide ((l0.length : Int) > 200) = true := decide_eq_true (by omega)
      go_enter Try.func20,Try.ntmps20
      go_wp2_with (first | (go_at_call 70;refine HB.out.mono ?_;rintro e w1 ⟨rfl,hb1⟩))
      refine bodyPost_ret (v := .tuple #[.slice none 0 0,.int .i64 4]) (by simp [results,Try.results20,go_sem]) rfl ⟨_,by rw [show regionE l0 = 4 from by simp [regionE,hb,h2]],?_,hb1⟩;rw [show regionL l0 = [] from by simp [regionL,hb,h2]];exact Kd.R_nil _ _ _ _ _
    · have h2b : decide ((l0.length : Int) > 200) = false := decide_eq_false (by omega)
      have e1 : regionE l0 = madeE (outOf orB l0 []) := by simp [regionE,hb,h2]
      have e2 : regionL l0 = madeL (outOf orB l0 []) := by simp [regionL,hb,h2]
      have HM := fun w1 (hb1 : Below w.heap.size w w1) => Zb.mk (Jq orB 59 enters59 is59 A0 none c0 0 l0 [] w1 (Kd.Z5 HR.out hb1) (J5 _ _) hl (by simp))
      rw [e1,e2];clear e1 e2
      go_enter Try.func20,Try.ntmps20
      go_wp2_with (first | (go_at_call 70;refine HB.out.mono ?_;rintro e w1 ⟨rfl,hb1⟩;have HM1 := HM w1 hb1) | (go_at_call 73;refine HM1.out.mono ?_;rintro e w2 ⟨v2,rfl,ho2,hb2⟩))
      refine bodyPost_ret (v := .tuple #[v2,.int .i64 (madeE (outOf orB l0 []))]) (by simp [results,Try.results20,go_sem]) rfl ⟨v2,rfl,?_,hb1.trans (hb2.mono hb1.size)⟩;exact Kd.Xd (Vd ho2) hb1.size
 · rw [if_neg hl] at h
   cases h
end Go.Proofs.Ythbajahklnpkcaa.PA

namespace Go.Proofs.Ythbajahklnpkcaa.PA
open Go.RowKit Go.Shelf Go.Sort Go.Proofs.YthbajahklnpkcaaW.PrintWords Go.Proofs.YthbajahklnpkcaaW.PrintLast Go.Proofs.YthbajahklnpkcaaW.PrintMore
set_option linter.unusedVariables false
set_option linter.unusedSimpArgs false
theorem compact_mem {zs : List Int} {x : Int} (h : x ∈ Lib.compact zs) : x ∈ zs := by
 unfold Lib.compact Lib.compactUpTo at h;rw [List.mem_map] at h;obtain ⟨i,hi,rfl⟩ := h;rw [List.mem_filter,List.mem_range] at hi
 have : zs.toArray[i]! = zs[i]'hi.1 := by simp [hi.1]
 rw [this];exact List.getElem_mem _
theorem Ja {zs : List Int} (hs : zs.Pairwise (· ≤ ·)) : ∀ m : Nat,m ≤ zs.length →
 (Lib.compactUpTo zs.toArray m).Pairwise (· < ·) ∧ (∀ x ∈ Lib.compactUpTo zs.toArray m,0 < m ∧ x ≤ zs.toArray[m - 1]!) ∧ (∀ i,i < m → zs.toArray[i]! ∈ Lib.compactUpTo zs.toArray m)
 | 0,_ => by simp [Lib.compactUpTo]
 | m + 1,hm => by
  obtain ⟨h1,h2,h3⟩ := Ja hs m (by omega)
  have hle : ∀ i j,i ≤ j → j < zs.length → zs.toArray[i]! ≤ zs.toArray[j]! := by
   intro i j hij hj
   have e1 : zs.toArray[i]! = zs[i]'(by omega) := by simp [show i < zs.length by omega]
   have e2 : zs.toArray[j]! = zs[j]'hj := by simp [hj]
   rw [e1,e2]
   rcases Nat.lt_or_ge i j with h | h
   · exact List.pairwise_iff_getElem.mp hs i j _ hj h
   · have : i = j := by omega
     subst this;exact Int.le_refl _
  rw [Lib.compactUpTo_succ]
  cases hk : Lib.keeps zs.toArray m with
  | true =>
   simp only [if_true]
   have hlt : ∀ x ∈ Lib.compactUpTo zs.toArray m,x < zs.toArray[m]! := by
    intro x hx;obtain ⟨hm0,hx2⟩ := h2 x hx
    have hne : zs.toArray[m]! ≠ zs.toArray[m - 1]! := by
     intro e;rw [Lib.keeps_neg hm0 e] at hk
     cases hk
    have := hle (m - 1) m (by omega) (by omega);omega
   refine ⟨List.pairwise_append.mpr ⟨h1,List.pairwise_singleton _ _,fun x hx y hy => by rw [List.mem_singleton.mp hy];exact hlt x hx⟩,?_,?_⟩
   · intro x hx
     rcases List.mem_append.mp hx with hx | hx
     · exact ⟨by omega,Int.le_of_lt (hlt x hx)⟩
     · rw [List.mem_singleton.mp hx];exact ⟨by omega,Int.le_refl _⟩
   · intro i hi
     rcases Nat.lt_or_ge i m with h | h
     · exact List.mem_append_left _ (h3 i h)
     · have : i = m := by omega
       subst this;exact List.mem_append_right _ (by simp)
  | false =>
   simp only [Bool.false_eq_true,if_false,List.append_nil]
   have hm0 : 0 < m := by
    rcases Nat.eq_zero_or_pos m with h | h
    · subst h;simp [Lib.keeps] at hk
    · exact h
   have he : zs.toArray[m]! = zs.toArray[m - 1]! := by
    rcases Classical.em (zs.toArray[m]! = zs.toArray[m - 1]!) with h | h
    · exact h
    · rw [Lib.keeps_pos h] at hk;cases hk
   refine ⟨h1,fun x hx => ⟨by omega,?_⟩,fun i hi => ?_⟩
   · have := (h2 x hx).2
     show x ≤ zs.toArray[m]!;rw [he];exact this
   · rcases Nat.lt_or_ge i m with h | h
     · exact h3 i h
     · have : i = m := by omega
       subst this;rw [he];exact h3 (i - 1) (by omega)
theorem compact_spec {zs : List Int} (hs : zs.Pairwise (· ≤ ·)) : (Lib.compact zs).Pairwise (· < ·) ∧ ∀ x ∈ zs,x ∈ Lib.compact zs := by
 obtain ⟨h1,_,h3⟩ := Ja hs zs.length (Nat.le_refl _);refine ⟨h1,fun x hx => ?_⟩;obtain ⟨i,hi,rfl⟩ := List.getElem_of_mem hx;have := h3 i hi
 have e : zs.toArray[i]! = zs[i] := by simp [hi]
 rw [e] at this;exact this
theorem sortI_sorted (zs : List Int) : (sortI zs).Pairwise (· ≤ ·) := by
 have := List.pairwise_mergeSort (le := fun x y : Int => decide (x ≤ y)) (fun a b c h1 h2 => by simp at *;omega) (fun a b => by simp;omega) zs;exact this.imp (fun h => by simpa using h)
theorem Qy (fa fb : S43 → Int) (l : List S43) : (edgesL fa fb l).Pairwise (· < ·) ∧ (∀ x,x ∈ edgesL fa fb l ↔ x ∈ endsOf fa fb l) := by
 obtain ⟨h1,h2⟩ := compact_spec (sortI_sorted (endsOf fa fb l));refine ⟨h1,fun x => ⟨fun h => ?_,fun h => h2 x (by simpa [sortI] using h)⟩⟩;have := compact_mem h
 simpa [sortI] using this
theorem XU (r : S43) : okR r = true ↔ (-10000 ≤ r.f0 ∧ r.f0 ≤ 10000 ∧ -10000 ≤ r.f1 ∧ r.f1 ≤ 10000 ∧ 0 ≤ r.f2 ∧ r.f2 ≤ 20000 ∧ 0 ≤ r.f3 ∧ r.f3 ≤ 20000) := by
 simp only [okR,okP,okW,Bool.and_eq_true,decide_eq_true_eq];constructor
 · rintro ⟨⟨⟨⟨h1,h2⟩,h3,h4⟩,h5,h6⟩,h7,h8⟩;exact ⟨h1,h2,h3,h4,h5,h6,h7,h8⟩
 · rintro ⟨h1,h2,h3,h4,h5,h6,h7,h8⟩;exact ⟨⟨⟨⟨h1,h2⟩,h3,h4⟩,h5,h6⟩,h7,h8⟩
theorem XH {l : List S43} : badL l = false ↔ ∀ r ∈ l,okR r = true := by
 simp [badL,List.any_eq_false]
theorem Y7 {l : List S43} (h : badL l = false) (x y : Int) : covL l x y = hasR l x y := by
 have hm := XH.mp h
 have : ∀ k : List S43,(∀ r ∈ k,okR r = true) → k.any (inR x y) = hasR k x y := by
  intro k hk
  induction k with
  | nil => rfl
  | cons r k ih =>
   have hr := (XU r).mp (hk r (by simp))
   have e : inR x y r = (decide (r.f0 ≤ x) && decide (x < r.f0 + r.f2) && decide (r.f1 ≤ y) && decide (y < r.f1 + r.f3)) := by
    unfold inR;rw [w64 (by omega) (by omega),w64 (by omega) (by omega)]
   rw [List.any_cons,e,ih (fun r hr => hk r (by simp [hr]))];simp [hasR]
 exact this l hm
theorem Yb {fa fb : S43 → Int} {l : List S43} {r : S43} (hr : r ∈ l) (h2 : 0 < r.f2) (h3 : 0 < r.f3) : fa r ∈ endsOf fa fb l ∧ fb r ∈ endsOf fa fb l := by
 unfold endsOf
 constructor <;> (rw [List.mem_flatMap];exact ⟨r,hr,by rw [if_pos ⟨h2,h3⟩];simp⟩)
theorem Ya {fa fb : S43 → Int} {l : List S43} {x : Int} (h : x ∈ endsOf fa fb l) : ∃ r ∈ l,x = fa r ∨ x = fb r := by
 unfold endsOf at h;rw [List.mem_flatMap] at h;obtain ⟨r,hr,hx⟩ := h;split at hx
 · simp at hx;exact ⟨r,hr,hx⟩
 · cases hx
def okN (M : Int) (x : Int) : Prop := -M ≤ x ∧ x ≤ M
def okBd (M : Int) (b : Bd) : Prop := okN M b.1 ∧ okN M b.2.1 ∧ ∀ s ∈ b.2.2,okN M s.1 ∧ okN M s.2
theorem addR_okN {M : Int} {acc : List Sp} {u v : Int} {t : Bool} (h : ∀ s ∈ acc,okN M s.1 ∧ okN M s.2) (hu : okN M u) (hv : okN M v) : ∀ s ∈ addR acc u v t,okN M s.1 ∧ okN M s.2 := by
 intro s hs
 cases t
 · exact h s (by simpa [addR] using hs)
 · cases acc with
   | nil => simp [addR] at hs;subst hs;exact ⟨hu,hv⟩
   | cons q r =>
    obtain ⟨a,b⟩ := q
    by_cases hb : b = u
    · simp only [addR,hb,if_true] at hs
      rcases List.mem_cons.mp hs with rfl | hs
      · exact ⟨(h (a,b) (by simp)).1,hv⟩
      · exact h s (by simp [hs])
    · simp only [addR,hb,if_true,if_false] at hs
      rcases List.mem_cons.mp hs with rfl | hs
      · exact ⟨hu,hv⟩
      · exact h s hs
theorem JE {M : Int} (p : Int → Bool) : ∀ (xs : List Int) (acc : List Sp),(∀ x ∈ xs,okN M x) → (∀ s ∈ acc,okN M s.1 ∧ okN M s.2) → ∀ s ∈ rowR p xs acc,okN M s.1 ∧ okN M s.2
 | [],acc,_,h => h
 | [_],acc,_,h => h
 | u :: v :: r,acc,hx,h => JE p (v :: r) _ (fun x hm => hx x (by simp [hm])) (addR_okN h (hx u (by simp)) (hx v (by simp)))
theorem addP_okBd {M : Int} {acc : List Bd} {u v : Int} {s : List Sp} (h : ∀ b ∈ acc,okBd M b) (hu : okN M u) (hv : okN M v) (hs : ∀ q ∈ s,okN M q.1 ∧ okN M q.2) : ∀ b ∈ addP acc u v s,okBd M b := by
 intro b hb
 cases acc with
 | nil => simp [addP] at hb;subst hb;exact ⟨hu,hv,hs⟩
 | cons q r =>
  obtain ⟨a,b2,t⟩ := q
  by_cases hc : b2 = u ∧ t = s
  · simp only [addP,hc,and_self,if_true] at hb
    rcases List.mem_cons.mp hb with rfl | hb
    · exact ⟨(h (a,b2,t) (by simp)).1,hv,hs⟩
    · exact h b (by simp [hb])
  · simp only [addP,hc,if_false] at hb
    rcases List.mem_cons.mp hb with rfl | hb
    · exact ⟨hu,hv,hs⟩
    · exact h b hb
theorem YX {M : Int} (f : Int → List Sp) (hf : ∀ y,∀ q ∈ f y,okN M q.1 ∧ okN M q.2) : ∀ (ys : List Int) (acc : List Bd),(∀ x ∈ ys,okN M x) → (∀ b ∈ acc,okBd M b) → ∀ b ∈ bandP f ys acc,okBd M b
 | [],acc,_,h => h
 | [_],acc,_,h => h
 | u :: v :: r,acc,hx,h => YX f hf (v :: r) _ (fun x hm => hx x (by simp [hm])) (addP_okBd h (hx u (by simp)) (hx v (by simp)) (hf u))
theorem flatW_eq (l : List Bd) (h : ∀ b ∈ l,okBd 40000 b) : flatW l = l.flatMap bandL := by
 induction l with
 | nil => rfl
 | cons b l ih =>
  obtain ⟨h1,h2,h3⟩ := h b (by simp)
  have e : b.2.2.map (rectW b) = bandL b := by
   unfold bandL;apply List.map_congr_left;intro s hs;obtain ⟨h4,h5⟩ := h3 s hs;unfold okN at h1 h2 h4 h5;unfold rectW;rw [w64 (by omega) (by omega),w64 (by omega) (by omega)]
  show b.2.2.map (rectW b) ++ flatW l = bandL b ++ l.flatMap bandL;rw [e,ih (fun b hb => h b (by simp [hb]))]
theorem YT {is : Bool → Bool → Bool} (his : is false false = false) {a b : List S43} (ha : badL a = false) (hb : badL b = false) : outOf is a b = full (TR is a b) 40000 := by
 have hma := XH.mp ha;have hmb := XH.mp hb
 have hab : ∀ r ∈ a ++ b,okR r = true := fun r hr => (List.mem_append.mp hr).elim (hma r) (hmb r)
 obtain ⟨hx1,hx2⟩ := Qy (fun r => r.f0) (fun r => wrap64 (r.f0 + r.f2)) (a ++ b);obtain ⟨hy1,hy2⟩ := Qy (fun r => r.f1) (fun r => wrap64 (r.f1 + r.f3)) (a ++ b)
 have bx : ∀ x ∈ edgX (a ++ b),okN 40000 x := by
  intro x hx;obtain ⟨r,hr,h⟩ := Ya ((hx2 x).mp hx);have h0 := (XU r).mp (hab r hr)
  rcases h with rfl | rfl
  · show -40000 ≤ r.f0 ∧ r.f0 ≤ 40000;omega
  · show -40000 ≤ wrap64 (r.f0 + r.f2) ∧ wrap64 (r.f0 + r.f2) ≤ 40000
    rw [w64 (by omega) (by omega)];omega
 have by_ : ∀ x ∈ edgY (a ++ b),okN 40000 x := by
  intro x hx;obtain ⟨r,hr,h⟩ := Ya ((hy2 x).mp hx);have h0 := (XU r).mp (hab r hr)
  rcases h with rfl | rfl
  · show -40000 ≤ r.f1 ∧ r.f1 ≤ 40000;omega
  · show -40000 ≤ wrap64 (r.f1 + r.f3) ∧ wrap64 (r.f1 + r.f3) ≤ 40000
    rw [w64 (by omega) (by omega)];omega
 have ex : ∀ l : List S43,(∀ r ∈ l,r ∈ a ++ b) → EdgX (edgX (a ++ b)) l := by
  intro l hl r hr h2 h3;have h0 := (XU r).mp (hab r (hl r hr));obtain ⟨m1,m2⟩ := Yb (fa := fun r => r.f0) (fb := fun r => wrap64 (r.f0 + r.f2)) (hl r hr) h2 h3;have e : wrap64 (r.f0 + r.f2) = r.f0 + r.f2 := w64 (by omega) (by omega);exact ⟨(hx2 _).mpr m1,by have := (hx2 _).mpr m2;simp only [e] at this;exact this⟩
 have ey : ∀ l : List S43,(∀ r ∈ l,r ∈ a ++ b) → EdgY (edgY (a ++ b)) l := by
  intro l hl r hr h2 h3;have h0 := (XU r).mp (hab r (hl r hr));obtain ⟨m1,m2⟩ := Yb (fa := fun r => r.f1) (fb := fun r => wrap64 (r.f1 + r.f3)) (hl r hr) h2 h3;have e : wrap64 (r.f1 + r.f3) = r.f1 + r.f3 := w64 (by omega) (by omega);exact ⟨(hy2 _).mpr m1,by have := (hy2 _).mpr m2;simp only [e] at this;exact this⟩
 have hf : spansOf is a b (edgX (a ++ b)) = fun y => (rowR (fun x => TR is a b x y) (edgX (a ++ b)) []).reverse := by
  funext y
  rw [spansOf,JK]
  congr 2
  funext x
  rw [Y7 ha,Y7 hb];rfl
 have hform := Je his (a := a) (b := b) (xs := edgX (a ++ b)) (ys := edgY (a ++ b)) (M := 40000) hx1 hy1 (fun x hx => by have := bx x hx;unfold okN at this;omega) (fun x hx => by have := by_ x hx;unfold okN at this;omega)
  (ex a (fun r hr => List.mem_append_left _ hr)) (ex b (fun r hr => List.mem_append_right _ hr)) (ey a (fun r hr => List.mem_append_left _ hr)) (ey b (fun r hr => List.mem_append_right _ hr))
 have hP : accP (bandsOf is a b (edgX (a ++ b)) (edgY (a ++ b))) = bandP (spansOf is a b (edgX (a ++ b))) (edgY (a ++ b)) [] := accP_all _ _;rw [outOf,hP]
 have hsp : ∀ y,∀ q ∈ spansOf is a b (edgX (a ++ b)) y,okN 40000 q.1 ∧ okN 40000 q.2 := by
  intro y q hq;rw [spansOf,JK] at hq;exact JE _ _ [] bx (fun s hs => by cases hs) q (by simpa using hq)
 have hok := YX (spansOf is a b (edgX (a ++ b))) hsp (edgY (a ++ b)) [] by_ (fun b hb => by cases hb);rw [flatW_eq _ (fun b hb => hok b (by simpa using hb))];show flatB (bandP (spansOf is a b (edgX (a ++ b))) (edgY (a ++ b)) []) = _;rw [flat_bandP _ (edgY (a ++ b)) hy1,hf,hform];rfl
end Go.Proofs.Ythbajahklnpkcaa.PA

namespace Go.Proofs.Ythbajahklnpkcaa.PA
set_option linter.unusedVariables false
set_option linter.unusedSimpArgs false
theorem hasR_nil (x y : Int) : hasR [] x y = false := rfl
theorem YJ {l : List S43} (h : badL l = false) : InBox (hasR l) 40000 := by
 intro x y hxy;obtain ⟨r,hr,h1,h2,h3,h4⟩ := (Qm l x y).mp hxy;have h0 := (XU r).mp (XH.mp h r hr);exact ⟨by omega,by omega,by omega,by omega⟩
theorem inBox_TR {is : Bool → Bool → Bool} (his : is false false = false) {a b : List S43} (ha : badL a = false) (hb : badL b = false) : InBox (TR is a b) 40000 := by
 intro x y hxy
 cases h1 : hasR a x y with
 | true => exact YJ ha x y h1
 | false =>
  cases h2 : hasR b x y with
  | true => exact YJ hb x y h2
  | false => simp [TR,h1,h2,his] at hxy
theorem full_idem {P : Int → Int → Bool} (h : InBox P 40000) : full (TR orB (full P 40000) []) 40000 = full P 40000 := by
 refine full_congr 40000 (fun x y => ?_);show (hasR (full P 40000) x y || hasR [] x y) = P x y;rw [hasR_full h,hasR_nil,Bool.or_false]
def validRegionB (l : List S43) : Prop := l.length ≤ 200 ∧ badL l = false ∧ full (TR orB l []) 40000 = l
theorem validRegion_full {P : Int → Int → Bool} (h : InBox P 40000) (hb : badL (full P 40000) = false) (hl : (full P 40000).length ≤ 200) : validRegionB (full P 40000) := ⟨hl,hb,full_idem h⟩
end Go.Proofs.Ythbajahklnpkcaa.PA

namespace Go.Proofs.Ythbajahklnpkcaa.PA
set_option linter.unusedVariables false
set_option linter.unusedSimpArgs false
def insC : List Int → Int → List Int
 | [],z => [z]
 | a :: r,z => if a < z then a :: insC r z else if a = z then a :: r else z :: a :: r
def cutsL (l : List Int) : List Int := l.foldl insC []
theorem YN (z x : Int) : ∀ l : List Int,x ∈ insC l z ↔ x = z ∨ x ∈ l
 | [] => by simp [insC]
 | a :: r => by
  unfold insC;split
  · rw [List.mem_cons,YN z x r,List.mem_cons]
    constructor
    · rintro (h | h | h)
      · exact .inr (.inl h)
      · exact .inl h
      · exact .inr (.inr h)
    · rintro (h | h | h)
      · exact .inr (.inl h)
      · exact .inl h
      · exact .inr (.inr h)
  · split
    · rename_i h
      subst h;simp
    · simp
theorem Yx (z : Int) : ∀ l : List Int,l.Pairwise (· < ·) → (insC l z).Pairwise (· < ·)
 | [],_ => by simp [insC]
 | a :: r,h => by
  obtain ⟨h1,h2⟩ := List.pairwise_cons.mp h;unfold insC;split
  · rename_i haz
    refine List.pairwise_cons.mpr ⟨fun x hx => ?_,Yx z r h2⟩
    rcases (YN z x r).mp hx with rfl | hx
    · exact haz
    · exact h1 x hx
  · split
    · exact h
    · rename_i h3 h4
      refine List.pairwise_cons.mpr ⟨fun x hx => ?_,h⟩
      rcases List.mem_cons.mp hx with rfl | hx
      · omega
      · have := h1 x hx;omega
theorem YU (l : List Int) : (cutsL l).Pairwise (· < ·) ∧ ∀ x,x ∈ cutsL l ↔ x ∈ l := by
 have key : ∀ (l acc : List Int),acc.Pairwise (· < ·) → (l.foldl insC acc).Pairwise (· < ·) ∧ ∀ x,x ∈ l.foldl insC acc ↔ x ∈ acc ∨ x ∈ l := by
  intro l
  induction l with
  | nil => intro acc h;exact ⟨h,fun x => by simp⟩
  | cons z l ih =>
   intro acc h;obtain ⟨h1,h2⟩ := ih (insC acc z) (Yx z acc h);refine ⟨h1,fun x => ?_⟩;rw [List.foldl_cons,h2 x,YN,List.mem_cons];constructor
   · rintro ((h | h) | h)
     · exact .inr (.inl h)
     · exact .inl h
     · exact .inr (.inr h)
   · rintro (h | h | h)
     · exact .inl (.inr h)
     · exact .inl (.inl h)
     · exact .inr h
 obtain ⟨h1,h2⟩ := key l [] List.Pairwise.nil;exact ⟨h1,fun x => by rw [cutsL,h2];simp⟩
def placeC : List Int → Int → Nat
 | [],_ => 0
 | a :: r,z => if a < z then placeC r z + 1 else 0
theorem Qu (z : Int) : ∀ l : List Int,insC l z = if l[placeC l z]? = some z then l else l.take (placeC l z) ++ z :: l.drop (placeC l z)
 | [] => by simp [insC,placeC]
 | a :: r => by
  unfold insC placeC;split
  · have := Qu z r
    rw [this];simp only [List.getElem?_cons_succ,List.take_succ_cons,List.drop_succ_cons]
    split <;> simp
  · rename_i h
    simp only [List.getElem?_cons_zero,List.take_zero,List.drop_zero,List.nil_append]
    by_cases he : a = z
    · simp [he]
    · simp [he]
end Go.Proofs.Ythbajahklnpkcaa.PA

namespace Go.Proofs.Ythbajahklnpkcaa.PA
open Go.RowKit Go.Proofs.YthbajahklnpkcaaW.PrintWords Go.Proofs.YthbajahklnpkcaaW.PrintLast Go.Proofs.YthbajahklnpkcaaW.PrintMore
def Ev {α : Type} (g : Nat → Option α) (r : α) : Prop := ∃ K,∀ k,K ≤ k → g k = some r
theorem Ev.pure {α : Type} {g : Nat → Option α} {r : α} (h : ∀ k,g (k + 1) = some r) : Ev g r := ⟨1,fun k hk => by obtain ⟨j,rfl⟩ : ∃ j,k = j + 1 := ⟨k - 1,by omega⟩;exact h j⟩
theorem Ev.val {α : Type} {g : Nat → Option α} {r : α} (h : ∀ k,g k = some r) : Ev g r := ⟨0,fun k _ => h k⟩
theorem Ev.step {α : Type} {g h : Nat → Option α} {r : α} (e : ∀ k,g (k + 1) = h k) (H : Ev h r) : Ev g r := by
 obtain ⟨K,hK⟩ := H;refine ⟨K + 1,fun k hk => ?_⟩
 obtain ⟨j,rfl⟩ : ∃ j,k = j + 1 := ⟨k - 1,by omega⟩
 rw [e];exact hK j (by omega)
theorem Ev.congr {α : Type} {g h : Nat → Option α} {r : α} (e : ∀ k,g k = h k) (H : Ev h r) : Ev g r := by
 obtain ⟨K,hK⟩ := H;exact ⟨K,fun k hk => (e k).trans (hK k hk)⟩
theorem Ev.bind {α β : Type} {g : Nat → Option α} {a : α} {f : Nat → α → Option β} {r : β} (hg : Ev g a) (hf : Ev (fun k => f k a) r) : Ev (fun k => (g k).bind (f k)) r := by
 obtain ⟨K,hK⟩ := hg;obtain ⟨L,hL⟩ := hf;refine ⟨max K L,fun k hk => ?_⟩;show (g k).bind (f k) = some r;rw [hK k (by omega)];exact hL k (by omega)
theorem Ev.some {α : Type} {g : Nat → Option α} {r : α} (H : Ev g r) : ∃ k,g k = Option.some r := by
 obtain ⟨K,hK⟩ := H;exact ⟨K,hK K (Nat.le_refl _)⟩
theorem Xi {n : Nat} (h : n < 9223372036854775807) : wrap64 ((n : Int) + 1) = ((n + 1 : Nat) : Int) := by unfold wrap64;omega
end Go.Proofs.Ythbajahklnpkcaa.PA

namespace Go.Proofs.Ythbajahklnpkcaa.PA
open Go.RowKit Go.Proofs.YthbajahklnpkcaaW.PrintWords Go.Proofs.YthbajahklnpkcaaW.PrintLast Go.Proofs.YthbajahklnpkcaaW.PrintMore
attribute [local go_sem] ZK ZL ZR ZU ZD ZC ZM ZN
set_option linter.unusedVariables false
set_option linter.unusedSimpArgs false
def Z0.l0 : Nat → List (S43) → Int → Int → Int → Option (Bool)
 | 0,_,_,_,_ => none
 | k + 1,x0,x1,x2,x7 => if x7 < (x0.length : Int) then (if 0 ≤ x7 then (if x1 ≥ ((Ze x0 x7).f0) then (if x1 < (wrap64 (((Ze x0 x7).f0) + ((Ze x0 x7).f2))) then (if x2 ≥ ((Ze x0 x7).f1) then (if x2 < (wrap64 (((Ze x0 x7).f1) + ((Ze x0 x7).f3))) then (some true) else (Z0.l0 k x0 x1 x2 (wrap64 (x7 + 1)))) else (Z0.l0 k x0 x1 x2 (wrap64 (x7 + 1)))) else (Z0.l0 k x0 x1 x2 (wrap64 (x7 + 1)))) else (Z0.l0 k x0 x1 x2 (wrap64 (x7 + 1)))) else (none)) else (some false)
def Z0.f (k : Nat) (l0 : List (S43)) (a1 : Int) (a2 : Int) : Option (Bool) := Z0.l0 k l0 a1 a2 0
set_option maxHeartbeats 8000000 in
set_option maxRecDepth 100000 in
theorem Z0.calls (k : Nat) (A0 : Option Addr) (c0 : Nat) (l0 : List (S43)) (a1 : Int) (a2 : Int) (r : Bool) (w : World) (hr0 : Kd.C k43 w A0 l0.length l0) (hc0 : l0.length ≤ c0) (h : Z0.f k l0 a1 a2 = some r) :
 Calls Try.prog 78 #[.slice A0 l0.length c0,.int .i64 a1,.int .i64 a2] w fun e w' => e = .returned (.bool r) ∧ Drawn0 w w' := by
 have HR0 := Zb.mk hr0;have HC0 := Zb.mk hc0;clear hr0 hc0;have H : (Z0.l0 k l0 a1 a2 0) = some r := h;clear h;have H' := Zb.mk H;clear H
 go_enter Try.func78,Try.ntmps78
 go_wp2
 repeat (go_quiet (fail);try go_wp2)
 go_loopg [7] k (fun kq v7 w' => ∃ (x7_1 : Int),v7 = .int .i64 x7_1 ∧ Zb (Z0.l0 kq l0 a1 a2 x7_1 = some r) ∧ Zb (kq ≤ k) ∧ Drawn0 w w')
 case atStart => exact ⟨(0),(by first | rfl | (simp;done) | (simp [*];done)),H',⟨Nat.le_refl _⟩,by repeat (first | exact Drawn0.refl _ | apply Drawn0.step)⟩
 case round =>
  clear H'
  (try clear p2)
  obtain ⟨x7_1,rfl,HA,HK1,⟨m1,rfl⟩⟩ := hrel
  cases gk with
  | zero => exact absurd HA.out (by simp [Z0.l0])
  | succ k1 =>
   have H := HA.out;clear HA;simp only [Z0.l0] at H
   by_cases c4 : x7_1 < (l0.length : Int)
   · rw [if_pos c4] at H
     have c4b0 : decide (x7_1 < (l0.length : Int)) = true := decide_eq_true c4;clear c4
     by_cases c5 : 0 ≤ x7_1
     · rw [if_pos c5] at H
       have c5b0 : decide (0 ≤ x7_1) = true := decide_eq_true c5;clear c5
       by_cases c6 : a1 ≥ ((Ze l0 x7_1).f0)
       · rw [if_pos c6] at H
         have c6b0 : decide (((Ze l0 x7_1).f0) ≤ a1) = true := decide_eq_true c6;clear c6
         by_cases c7 : a1 < (wrap64 (((Ze l0 x7_1).f0) + ((Ze l0 x7_1).f2)))
         · rw [if_pos c7] at H
           have c7b0 : decide (a1 < (wrap64 (((Ze l0 x7_1).f0) + ((Ze l0 x7_1).f2)))) = true := decide_eq_true c7;clear c7
           by_cases c8 : a2 ≥ ((Ze l0 x7_1).f1)
           · rw [if_pos c8] at H
             have c8b0 : decide (((Ze l0 x7_1).f1) ≤ a2) = true := decide_eq_true c8;clear c8
             by_cases c9 : a2 < (wrap64 (((Ze l0 x7_1).f1) + ((Ze l0 x7_1).f3)))
             · rw [if_pos c9] at H
               have c9b0 : decide (a2 < (wrap64 (((Ze l0 x7_1).f1) + ((Ze l0 x7_1).f3)))) = true := decide_eq_true c9;clear c9;obtain rfl := Option.some.inj H;have p272 : 0 ≤ (x7_1 : Int) := of_decide_eq_true (by first | (with_reducible assumption) | assumption);have q272 : x7_1 < (l0.length : Int) := of_decide_eq_true (by first | (with_reducible assumption) | assumption);obtain ⟨ad272,e272,hx272_0,hx272_1,hx272_2,hx272_3⟩ := Z4 HR0.out x7_1 p272 q272
               cases e272
               replace p272 := eq_true p272;replace q272 := eq_true q272;have p273 : 0 ≤ (x7_1 : Int) := of_decide_eq_true (by first | (with_reducible assumption) | assumption);have q273 : x7_1 < (l0.length : Int) := of_decide_eq_true (by first | (with_reducible assumption) | assumption);obtain ⟨ad273,e273,hx273_0,hx273_1,hx273_2,hx273_3⟩ := Z4 HR0.out x7_1 p273 q273
               obtain rfl : ad272 = ad273 := (by injection e273)
               replace p273 := eq_true p273;replace q273 := eq_true q273;have p274 : 0 ≤ (x7_1 : Int) := of_decide_eq_true (by first | (with_reducible assumption) | assumption);have q274 : x7_1 < (l0.length : Int) := of_decide_eq_true (by first | (with_reducible assumption) | assumption);obtain ⟨ad274,e274,hx274_0,hx274_1,hx274_2,hx274_3⟩ := Z4 HR0.out x7_1 p274 q274
               obtain rfl : ad272 = ad274 := (by injection e274)
               replace p274 := eq_true p274;replace q274 := eq_true q274;have p275 : 0 ≤ (x7_1 : Int) := of_decide_eq_true (by first | (with_reducible assumption) | assumption);have q275 : x7_1 < (l0.length : Int) := of_decide_eq_true (by first | (with_reducible assumption) | assumption);obtain ⟨ad275,e275,hx275_0,hx275_1,hx275_2,hx275_3⟩ := Z4 HR0.out x7_1 p275 q275
               obtain rfl : ad272 = ad275 := (by injection e275)
               replace p275 := eq_true p275;replace q275 := eq_true q275;have p276 : 0 ≤ (x7_1 : Int) := of_decide_eq_true (by first | (with_reducible assumption) | assumption);have q276 : x7_1 < (l0.length : Int) := of_decide_eq_true (by first | (with_reducible assumption) | assumption);obtain ⟨ad276,e276,hx276_0,hx276_1,hx276_2,hx276_3⟩ := Z4 HR0.out x7_1 p276 q276
               obtain rfl : ad272 = ad276 := (by injection e276)
               replace p276 := eq_true p276;replace q276 := eq_true q276;have p277 : 0 ≤ (x7_1 : Int) := of_decide_eq_true (by first | (with_reducible assumption) | assumption);have q277 : x7_1 < (l0.length : Int) := of_decide_eq_true (by first | (with_reducible assumption) | assumption);obtain ⟨ad277,e277,hx277_0,hx277_1,hx277_2,hx277_3⟩ := Z4 HR0.out x7_1 p277 q277
               obtain rfl : ad272 = ad277 := (by injection e277)
               replace p277 := eq_true p277;replace q277 := eq_true q277
               go_wp2
               repeat (go_quiet (fail);try go_wp2)
               go_ret;exact ⟨by first | rfl | (simp;done) | (simp [*];done),by repeat (first | exact Drawn0.refl _ | apply Drawn0.step)⟩
             · rw [if_neg c9] at H
               have c9b0 : decide (a2 < (wrap64 (((Ze l0 x7_1).f1) + ((Ze l0 x7_1).f3)))) = false := decide_eq_false c9;clear c9;have H' := Zb.mk H;clear H;have p272 : 0 ≤ (x7_1 : Int) := of_decide_eq_true (by first | (with_reducible assumption) | assumption);have q272 : x7_1 < (l0.length : Int) := of_decide_eq_true (by first | (with_reducible assumption) | assumption);obtain ⟨ad272,e272,hx272_0,hx272_1,hx272_2,hx272_3⟩ := Z4 HR0.out x7_1 p272 q272
               cases e272
               replace p272 := eq_true p272;replace q272 := eq_true q272;have p273 : 0 ≤ (x7_1 : Int) := of_decide_eq_true (by first | (with_reducible assumption) | assumption);have q273 : x7_1 < (l0.length : Int) := of_decide_eq_true (by first | (with_reducible assumption) | assumption);obtain ⟨ad273,e273,hx273_0,hx273_1,hx273_2,hx273_3⟩ := Z4 HR0.out x7_1 p273 q273
               obtain rfl : ad272 = ad273 := (by injection e273)
               replace p273 := eq_true p273;replace q273 := eq_true q273;have p274 : 0 ≤ (x7_1 : Int) := of_decide_eq_true (by first | (with_reducible assumption) | assumption);have q274 : x7_1 < (l0.length : Int) := of_decide_eq_true (by first | (with_reducible assumption) | assumption);obtain ⟨ad274,e274,hx274_0,hx274_1,hx274_2,hx274_3⟩ := Z4 HR0.out x7_1 p274 q274
               obtain rfl : ad272 = ad274 := (by injection e274)
               replace p274 := eq_true p274;replace q274 := eq_true q274;have p275 : 0 ≤ (x7_1 : Int) := of_decide_eq_true (by first | (with_reducible assumption) | assumption);have q275 : x7_1 < (l0.length : Int) := of_decide_eq_true (by first | (with_reducible assumption) | assumption);obtain ⟨ad275,e275,hx275_0,hx275_1,hx275_2,hx275_3⟩ := Z4 HR0.out x7_1 p275 q275
               obtain rfl : ad272 = ad275 := (by injection e275)
               replace p275 := eq_true p275;replace q275 := eq_true q275;have p276 : 0 ≤ (x7_1 : Int) := of_decide_eq_true (by first | (with_reducible assumption) | assumption);have q276 : x7_1 < (l0.length : Int) := of_decide_eq_true (by first | (with_reducible assumption) | assumption);obtain ⟨ad276,e276,hx276_0,hx276_1,hx276_2,hx276_3⟩ := Z4 HR0.out x7_1 p276 q276
               obtain rfl : ad272 = ad276 := (by injection e276)
               replace p276 := eq_true p276;replace q276 := eq_true q276;have p277 : 0 ≤ (x7_1 : Int) := of_decide_eq_true (by first | (with_reducible assumption) | assumption);have q277 : x7_1 < (l0.length : Int) := of_decide_eq_true (by first | (with_reducible assumption) | assumption);obtain ⟨ad277,e277,hx277_0,hx277_1,hx277_2,hx277_3⟩ := Z4 HR0.out x7_1 p277 q277
               obtain rfl : ad272 = ad277 := (by injection e277)
               replace p277 := eq_true p277;replace q277 := eq_true q277
               go_wp2
               repeat (go_quiet (fail);try go_wp2)
               go_roundg k1
               case measure => have := HK1.out;omega
               case rel => exact ⟨(wrap64 (x7_1 + 1)),(by first | rfl | (simp;done) | (simp [*];done)),H',⟨by have := HK1.out;omega⟩,by repeat (first | exact Drawn0.refl _ | apply Drawn0.step)⟩
           · rw [if_neg c8] at H
             have c8b0 : decide (((Ze l0 x7_1).f1) ≤ a2) = false := decide_eq_false c8;clear c8;have H' := Zb.mk H;clear H;have p272 : 0 ≤ (x7_1 : Int) := of_decide_eq_true (by first | (with_reducible assumption) | assumption);have q272 : x7_1 < (l0.length : Int) := of_decide_eq_true (by first | (with_reducible assumption) | assumption);obtain ⟨ad272,e272,hx272_0,hx272_1,hx272_2,hx272_3⟩ := Z4 HR0.out x7_1 p272 q272
             cases e272
             replace p272 := eq_true p272;replace q272 := eq_true q272;have p273 : 0 ≤ (x7_1 : Int) := of_decide_eq_true (by first | (with_reducible assumption) | assumption);have q273 : x7_1 < (l0.length : Int) := of_decide_eq_true (by first | (with_reducible assumption) | assumption);obtain ⟨ad273,e273,hx273_0,hx273_1,hx273_2,hx273_3⟩ := Z4 HR0.out x7_1 p273 q273
             obtain rfl : ad272 = ad273 := (by injection e273)
             replace p273 := eq_true p273;replace q273 := eq_true q273;have p274 : 0 ≤ (x7_1 : Int) := of_decide_eq_true (by first | (with_reducible assumption) | assumption);have q274 : x7_1 < (l0.length : Int) := of_decide_eq_true (by first | (with_reducible assumption) | assumption);obtain ⟨ad274,e274,hx274_0,hx274_1,hx274_2,hx274_3⟩ := Z4 HR0.out x7_1 p274 q274
             obtain rfl : ad272 = ad274 := (by injection e274)
             replace p274 := eq_true p274;replace q274 := eq_true q274;have p275 : 0 ≤ (x7_1 : Int) := of_decide_eq_true (by first | (with_reducible assumption) | assumption);have q275 : x7_1 < (l0.length : Int) := of_decide_eq_true (by first | (with_reducible assumption) | assumption);obtain ⟨ad275,e275,hx275_0,hx275_1,hx275_2,hx275_3⟩ := Z4 HR0.out x7_1 p275 q275
             obtain rfl : ad272 = ad275 := (by injection e275)
             replace p275 := eq_true p275;replace q275 := eq_true q275
             go_wp2
             repeat (go_quiet (fail);try go_wp2)
             go_roundg k1
             case measure => have := HK1.out;omega
             case rel => exact ⟨(wrap64 (x7_1 + 1)),(by first | rfl | (simp;done) | (simp [*];done)),H',⟨by have := HK1.out;omega⟩,by repeat (first | exact Drawn0.refl _ | apply Drawn0.step)⟩
         · rw [if_neg c7] at H
           have c7b0 : decide (a1 < (wrap64 (((Ze l0 x7_1).f0) + ((Ze l0 x7_1).f2)))) = false := decide_eq_false c7;clear c7;have H' := Zb.mk H;clear H;have p272 : 0 ≤ (x7_1 : Int) := of_decide_eq_true (by first | (with_reducible assumption) | assumption);have q272 : x7_1 < (l0.length : Int) := of_decide_eq_true (by first | (with_reducible assumption) | assumption);obtain ⟨ad272,e272,hx272_0,hx272_1,hx272_2,hx272_3⟩ := Z4 HR0.out x7_1 p272 q272
           cases e272
           replace p272 := eq_true p272;replace q272 := eq_true q272;have p273 : 0 ≤ (x7_1 : Int) := of_decide_eq_true (by first | (with_reducible assumption) | assumption);have q273 : x7_1 < (l0.length : Int) := of_decide_eq_true (by first | (with_reducible assumption) | assumption);obtain ⟨ad273,e273,hx273_0,hx273_1,hx273_2,hx273_3⟩ := Z4 HR0.out x7_1 p273 q273
           obtain rfl : ad272 = ad273 := (by injection e273)
           replace p273 := eq_true p273;replace q273 := eq_true q273;have p274 : 0 ≤ (x7_1 : Int) := of_decide_eq_true (by first | (with_reducible assumption) | assumption);have q274 : x7_1 < (l0.length : Int) := of_decide_eq_true (by first | (with_reducible assumption) | assumption);obtain ⟨ad274,e274,hx274_0,hx274_1,hx274_2,hx274_3⟩ := Z4 HR0.out x7_1 p274 q274
           obtain rfl : ad272 = ad274 := (by injection e274)
           replace p274 := eq_true p274;replace q274 := eq_true q274
           go_wp2
           repeat (go_quiet (fail);try go_wp2)
           go_roundg k1
           case measure => have := HK1.out;omega
           case rel => exact ⟨(wrap64 (x7_1 + 1)),(by first | rfl | (simp;done) | (simp [*];done)),H',⟨by have := HK1.out;omega⟩,by repeat (first | exact Drawn0.refl _ | apply Drawn0.step)⟩
       · rw [if_neg c6] at H
         have c6b0 : decide (((Ze l0 x7_1).f0) ≤ a1) = false := decide_eq_false c6;clear c6;have H' := Zb.mk H;clear H;have p272 : 0 ≤ (x7_1 : Int) := of_decide_eq_true (by first | (with_reducible assumption) | assumption);have q272 : x7_1 < (l0.length : Int) := of_decide_eq_true (by first | (with_reducible assumption) | assumption);obtain ⟨ad272,e272,hx272_0,hx272_1,hx272_2,hx272_3⟩ := Z4 HR0.out x7_1 p272 q272
         cases e272
         replace p272 := eq_true p272;replace q272 := eq_true q272
         go_wp2
         repeat (go_quiet (fail);try go_wp2)
         go_roundg k1
         case measure => have := HK1.out;omega
         case rel => exact ⟨(wrap64 (x7_1 + 1)),(by first | rfl | (simp;done) | (simp [*];done)),H',⟨by have := HK1.out;omega⟩,by repeat (first | exact Drawn0.refl _ | apply Drawn0.step)⟩
     · rw [if_neg c5] at H
       exact absurd H (by simp)
   · rw [if_neg c4] at H
     have c4b0 : decide (x7_1 < (l0.length : Int)) = false := decide_eq_false c4;clear c4;obtain rfl := Option.some.inj H
     go_wp2
     repeat (go_quiet (fail);try go_wp2)
     go_ret;exact ⟨by first | rfl | (simp;done) | (simp [*];done),by repeat (first | exact Drawn0.refl _ | apply Drawn0.step)⟩
end Go.Proofs.Ythbajahklnpkcaa.PA

namespace Go.Proofs.Ythbajahklnpkcaa.PA
open Go.RowKit Go.Proofs.YthbajahklnpkcaaW.PrintWords Go.Proofs.YthbajahklnpkcaaW.PrintLast Go.Proofs.YthbajahklnpkcaaW.PrintMore
attribute [local go_sem] ZK ZL ZR ZU ZD ZC ZM ZN
set_option linter.unusedVariables false
set_option linter.unusedSimpArgs false
def Zv.l0 : Nat → List (S43) → List (S43) → Int → Option ((List (S43)))
 | 0,_,_,_ => none
 | k + 1,x0,x3,x4 => if x4 < (x0.length : Int) then (if (x3.length : Int) > 0 then (if 0 ≤ (wrap64 ((x3.length : Int) - 1)) then (if (wrap64 ((x3.length : Int) - 1)) < (x3.length : Int) then (if 0 ≤ x4 then (if (wrap64 (((Ze x3 (wrap64 ((x3.length : Int) - 1))).f0) + ((Ze x3 (wrap64 ((x3.length : Int) - 1))).f2))) = ((Ze x0 x4).f0) then (Zv.l0 k x0 (x3.set ((wrap64 ((x3.length : Int) - 1)) : Int).toNat (⟨(Ze x3 (wrap64 ((x3.length : Int) - 1))).f0,(Ze x3 (wrap64 ((x3.length : Int) - 1))).f1,wrap64 (((Ze x3 (wrap64 ((x3.length : Int) - 1))).f2) + ((Ze x0 x4).f2)),(Ze x3 (wrap64 ((x3.length : Int) - 1))).f3⟩ : S43)) (wrap64 (x4 + 1))) else (if x3.length < 4398046511104 then (Zv.l0 k x0 (x3 ++ [(⟨(Ze x0 x4).f0,(Ze x0 x4).f1,(Ze x0 x4).f2,(Ze x0 x4).f3⟩ : S43)]) (wrap64 (x4 + 1))) else (none))) else (none)) else (none)) else (none)) else (if 0 ≤ x4 then (if x3.length < 4398046511104 then (Zv.l0 k x0 (x3 ++ [(⟨(Ze x0 x4).f0,(Ze x0 x4).f1,(Ze x0 x4).f2,(Ze x0 x4).f3⟩ : S43)]) (wrap64 (x4 + 1))) else (none)) else (none))) else (some x3)
def Zv.f (k : Nat) (l0 : List (S43)) : Option ((List (S43))) := Zv.l0 k l0 ([] : List (S43)) 0
def Zv.T6 : Bool × List (List Nat × List Nat) := (true,[([],[]),([0],[0]),([1],[1]),([2],[2]),([2],[2]),([4,2],[2,4]),([3,5,2],[2,3,5]),([6,2],[2,6]),([7,2],[2,7]),([2],[2]),([2],[2]),([10,2],[2,10]),([9,11,2],[2,9,11]),([12,2],[2,12]),([13,2],[2,13]),([8,14,2],[2,8,14]),([2],[2]),([2],[2]),([16,17,2],[2,16,17]),([18,2],[2,18]),([19,2],[2,19]),([15,20,2],[2,15,20]),([2,21],[2,21])])
def Zv.B6 : List Nat := [0,1,3,7,7,23,63,127,255,7,7,1031,3591,7687,15879,32767,7,7,196615,458759,983047,2097151,4194303]
theorem Zv.tab6 : rtab .any (opsOf Try.f113 6) = Zv.T6 := by kernel_rfl
theorem Zv.bits6 : waitsOk Zv.T6.2 Zv.B6 = true := by kernel_rfl
def Zv.T7 : Bool × List (List Nat × List Nat) := (true,[([],[]),([],[]),([1],[1]),([0,2],[0,2]),([3],[3]),([4],[4]),([],[]),([],[]),([6,7],[6,7]),([8],[8]),([9],[9]),([5,10],[5,10]),([0,2,0,1,2,3,4,5,6,7,8,9,10,11],[0,2]),([12,0,1,2,3,4,5,6,7,8,9,10,11],[12]),([13,11,0,1,2,3,4,5,6,7,8,9,10,11],[11,13])])
def Zv.B7 : List Nat := [0,0,2,7,15,31,0,0,192,448,960,2047,4095,8191,16383]
theorem Zv.tab7 : rtab .any (opsOf Try.f113 7) = Zv.T7 := by kernel_rfl
theorem Zv.bits7 : waitsOk Zv.T7.2 Zv.B7 = true := by kernel_rfl
set_option maxHeartbeats 8000000 in
set_option maxRecDepth 100000 in
theorem Zv.calls (k : Nat) (A0 : Option Addr) (c0 : Nat) (l0 : List (S43)) (r : List (S43)) (w : World) (hr0 : Kd.C k43 w A0 l0.length l0) (hc0 : l0.length ≤ c0) (h : Zv.f k l0 = some r) :
 Calls Try.prog 113 #[.slice A0 l0.length c0] w fun e w' => ∃ v0_ : Value,e = .returned (v0_) ∧ Kd.R k43 43 w' w.heap.size (fun _ => True) v0_ r ∧ Below w.heap.size w w' := by
 have hu43 := Try.underlying43;have HR0 := Zb.mk hr0;have HC0 := Zb.mk hc0;clear hr0 hc0;have HB := Zb.mk (Below.refl w.heap.size w);have H : (Zv.l0 k l0 ([] : List (S43)) 0) = some r := h;clear h;have H' := Zb.mk H;clear H
 go_enter Try.func113,Try.ntmps113
 go_wp2
 go_loopg [3,4] k (fun kq v3 v4 w' => ∃ (x3_1 : List (S43)) (x4_1 : Int),v4 = .int .i64 x4_1 ∧ Zb (Zv.l0 kq l0 x3_1 x4_1 = some r) ∧ Zb (kq ≤ k) ∧ Zb (Kd.R k43 43 w' w.heap.size (fun _ => True) v3 x3_1) ∧ Zb (Below w.heap.size w w'))
 case atStart => exact ⟨(([] : List (S43))),(0),(by first | rfl | (simp;done) | (simp [*];done)),H',⟨Nat.le_refl _⟩,⟨by first | exact Kd.R_nil _ _ _ _ _ | exact Kd.N_nil _ _ _ _ _ | exact Kd.V_nil _ _ _ _ _ | exact Kd.Q_nil _ _ _ _ _ | exact Kd.S_nil _ _ _ _ _⟩,⟨by repeat (first | (with_reducible first | exact HB.out | apply Zf | apply Za | apply Zd) | exact HB.out)⟩⟩
 case round =>
  clear H'
  (try clear c1)
  obtain ⟨x3_1,x4_1,rfl,HA,HK1,HO_3,HB⟩ := hrel
  cases gk with
  | zero => exact absurd HA.out (by simp [Zv.l0])
  | succ k1 =>
   have H := HA.out;clear HA;simp only [Zv.l0] at H
   by_cases c2 : x4_1 < (l0.length : Int)
   · rw [if_pos c2] at H
     have c2b0 : decide (x4_1 < (l0.length : Int)) = true := decide_eq_true c2;clear c2
     by_cases c3 : (x3_1.length : Int) > 0
     · rw [if_pos c3] at H
       have c3b0 : decide (0 < (x3_1.length : Int)) = true := decide_eq_true c3;have c3b1 : decide (0 < x3_1.length) = true := decide_eq_true (by omega);clear c3
       obtain ⟨ji4,hji4⟩ : ∃ j_ : Int,(wrap64 ((x3_1.length : Int) - 1)) = j_ := ⟨_,rfl⟩
       replace H : (if 0 ≤ (ji4) then (if (ji4) < (x3_1.length : Int) then (if 0 ≤ x4_1 then (if (wrap64 (((Ze x3_1 (ji4)).f0) + ((Ze x3_1 (ji4)).f2))) = ((Ze l0 x4_1).f0) then (Zv.l0 k1 l0 (x3_1.set ((ji4) : Int).toNat (⟨(Ze x3_1 (ji4)).f0,(Ze x3_1 (ji4)).f1,wrap64 (((Ze x3_1 (ji4)).f2) + ((Ze l0 x4_1).f2)),(Ze x3_1 (ji4)).f3⟩ : S43)) (wrap64 (x4_1 + 1))) else (if x3_1.length < 4398046511104 then (Zv.l0 k1 l0 (x3_1 ++ [(⟨(Ze l0 x4_1).f0,(Ze l0 x4_1).f1,(Ze l0 x4_1).f2,(Ze l0 x4_1).f3⟩ : S43)]) (wrap64 (x4_1 + 1))) else (none))) else (none)) else (none)) else (none)) = some r := by first | (rw [hji4] at H;exact H) | (simp only [hji4] at H ⊢;exact H)
       have hji4w : (IntKind.i64.wrap ((x3_1.length : Int) - 1)) = ji4 := (i64_w _).trans hji4
       by_cases c5 : 0 ≤ (ji4)
       · rw [if_pos c5] at H
         have c5b0 : decide (0 ≤ (ji4)) = true := decide_eq_true c5;clear c5
         by_cases c6 : (ji4) < (x3_1.length : Int)
         · rw [if_pos c6] at H
           have c6b0 : decide ((ji4) < (x3_1.length : Int)) = true := decide_eq_true c6;clear c6
           by_cases c7 : 0 ≤ x4_1
           · rw [if_pos c7] at H
             have c7b0 : decide (0 ≤ x4_1) = true := decide_eq_true c7;clear c7
             by_cases c8 : (wrap64 (((Ze x3_1 (ji4)).f0) + ((Ze x3_1 (ji4)).f2))) = ((Ze l0 x4_1).f0)
             · rw [if_pos c8] at H
               have c8b0 : ((wrap64 (((Ze x3_1 (ji4)).f0) + ((Ze x3_1 (ji4)).f2))) == ((Ze l0 x4_1).f0)) = true := beq_iff_eq.mpr c8;have c8b1 : ((wrap64 (((Ze x3_1 (ji4)).f0) + ((Ze x3_1 (ji4)).f2))) != ((Ze l0 x4_1).f0)) = false := bne_eq_false_iff_eq.mpr c8;clear c8
               obtain ⟨y283,hy283⟩ : ∃ y_ : List (S43),y_ = (x3_1.set ((ji4) : Int).toNat (⟨(Ze x3_1 (ji4)).f0,(Ze x3_1 (ji4)).f1,wrap64 (((Ze x3_1 (ji4)).f2) + ((Ze l0 x4_1).f2)),(Ze x3_1 (ji4)).f3⟩ : S43)) := ⟨_,rfl⟩
               replace H : (Zv.l0 k1 l0 y283 (wrap64 (x4_1 + 1))) = some r := by first | (rw [hy283];with_reducible exact H) | (have H2_ := (Option.bind_some _ _).symm.trans H;rw [hy283];with_reducible exact H2_) | (have H2_ := (Option.bind_some _ _).symm.trans H;with_reducible exact H2_) | with_reducible exact H | (rw [hy283];exact H) | exact H
               have Ny283 := Zb.mk hy283;clear hy283;have H' := Zb.mk H;clear H;obtain ⟨Ao10,co10,eo10⟩ := Kd.ZS HO_3.out;subst eo10
               try go_wp2
               have n0_ := Zb.mk (Kd.Zm HO_3.out);have n1_ := Zb.mk (Zd HB.out);clear HO_3;clear HB;have HO_3 := n0_;have HB := n1_;clear n0_ n1_;have p278 : 0 ≤ ((ji4) : Int) := of_decide_eq_true (by first | (with_reducible assumption) | assumption);have q278 : (ji4) < (x3_1.length : Int) := of_decide_eq_true (by first | (with_reducible assumption) | assumption);obtain ⟨ad278,e278,hx278_0,hx278_1,hx278_2,hx278_3⟩ := Z4 (Kd.Z3 HO_3.out).2.2 (ji4) p278 q278
               cases e278
               replace p278 := eq_true p278;replace q278 := eq_true q278;have p279 : 0 ≤ ((ji4) : Int) := of_decide_eq_true (by first | (with_reducible assumption) | assumption);have q279 : (ji4) < (x3_1.length : Int) := of_decide_eq_true (by first | (with_reducible assumption) | assumption);obtain ⟨ad279,e279,hx279_0,hx279_1,hx279_2,hx279_3⟩ := Z4 (Kd.Z3 HO_3.out).2.2 (ji4) p279 q279
               obtain rfl : ad278 = ad279 := (by injection e279)
               replace p279 := eq_true p279;replace q279 := eq_true q279;have p280 : 0 ≤ (x4_1 : Int) := of_decide_eq_true (by first | (with_reducible assumption) | assumption);have q280 : x4_1 < (l0.length : Int) := of_decide_eq_true (by first | (with_reducible assumption) | assumption);obtain ⟨ad280,e280,hx280_0,hx280_1,hx280_2,hx280_3⟩ := Z4 HR0.out x4_1 p280 q280;have hw280_3 := hx280_3;have hw280_2 := hx280_2;have hw280_1 := hx280_1;have hw280_0 := hx280_0
               cases e280
               replace hx280_0 := (HB.out.cell (World.block_lt_of_cell? w _ hx280_0)).trans hx280_0;replace hx280_1 := (HB.out.cell (World.block_lt_of_cell? w _ hx280_1)).trans hx280_1;replace hx280_2 := (HB.out.cell (World.block_lt_of_cell? w _ hx280_2)).trans hx280_2;replace hx280_3 := (HB.out.cell (World.block_lt_of_cell? w _ hx280_3)).trans hx280_3;replace p280 := eq_true p280;replace q280 := eq_true q280;refine Qn (n := 23) (S := fun w' => w'.cell? (ad278.add (((ji4)).toNat * 4)) = some (.int .i64 ((Ze x3_1 (ji4)).f0)) ∧ w'.cell? ⟨(ad278.add (((ji4)).toNat * 4)).block,(ad278.add (((ji4)).toNat * 4)).off + 1,none⟩ = some (.int .i64 ((Ze x3_1 (ji4)).f1)) ∧ w'.cell? ⟨(ad278.add (((ji4)).toNat * 4)).block,(ad278.add (((ji4)).toNat * 4)).off + 2,none⟩ = some (.int .i64 ((Ze x3_1 (ji4)).f2)) ∧ w'.cell? ⟨(ad278.add (((ji4)).toNat * 4)).block,(ad278.add (((ji4)).toNat * 4)).off + 3,none⟩ = some (.int .i64 ((Ze x3_1 (ji4)).f3)) ∧ w'.cell? (ad278.add (((ji4)).toNat * 4)) = some (.int .i64 ((Ze x3_1 (ji4)).f0)) ∧ w'.cell? ⟨(ad278.add (((ji4)).toNat * 4)).block,(ad278.add (((ji4)).toNat * 4)).off + 1,none⟩ = some (.int .i64 ((Ze x3_1 (ji4)).f1)) ∧ w'.cell? ⟨(ad278.add (((ji4)).toNat * 4)).block,(ad278.add (((ji4)).toNat * 4)).off + 2,none⟩ = some (.int .i64 ((Ze x3_1 (ji4)).f2)) ∧ w'.cell? ⟨(ad278.add (((ji4)).toNat * 4)).block,(ad278.add (((ji4)).toNat * 4)).off + 3,none⟩ = some (.int .i64 ((Ze x3_1 (ji4)).f3)) ∧ w'.cell? (ad280.add ((x4_1).toNat * 4)) = some (.int .i64 ((Ze l0 x4_1).f0)) ∧ w'.cell? ⟨(ad280.add ((x4_1).toNat * 4)).block,(ad280.add ((x4_1).toNat * 4)).off + 1,none⟩ = some (.int .i64 ((Ze l0 x4_1).f1)) ∧ w'.cell? ⟨(ad280.add ((x4_1).toNat * 4)).block,(ad280.add ((x4_1).toNat * 4)).off + 2,none⟩ = some (.int .i64 ((Ze l0 x4_1).f2)) ∧ w'.cell? ⟨(ad280.add ((x4_1).toNat * 4)).block,(ad280.add ((x4_1).toNat * 4)).off + 3,none⟩ = some (.int .i64 ((Ze l0 x4_1).f3))) (ds := []) #[Z,Z,Z,Z,Z,Z,Z,Z,Z,Z,Z,Z,Z,Z,Z,Z,Z,Z,Z,Z,Z,Z,Z] (by kernel_rfl) rfl rfl ⟨hx278_0,hx278_1,hx278_2,hx278_3,hx279_0,hx279_1,hx279_2,hx279_3,((HB.out.cell (World.block_lt_of_cell? w _ hw280_0)).trans hw280_0),((HB.out.cell (World.block_lt_of_cell? w _ hw280_1)).trans hw280_1),((HB.out.cell (World.block_lt_of_cell? w _ hw280_2)).trans hw280_2),((HB.out.cell (World.block_lt_of_cell? w _ hw280_3)).trans hw280_3)⟩ (fun hHeld => ?_);refine XC Zv.tab6 Zv.bits6 (fun HT_ HW_ => ?_);generalize wr.drew = w11 at HO_3 HB hx278_0 hx278_1 hx278_2 hx278_3 hx279_0 hx279_1 hx279_2 hx279_3 hx280_0 hx280_1 hx280_2 hx280_3 hHeld ⊢;refine pure_ (i := 0) (N := some 14) (v := ?_) (a' := ?_) #[U,Z,Z,Z,Z,Z,Z,Z,Z,Z,Z,Z,Z,Z,Z,Z,Z,Z,Z,Z,Z,Z,Z] rfl rfl (Zs HT_.out (by kernel_rfl)) (fun _ _ _ h => h) (Or.inl ⟨by rfl,?_⟩) ?_ ?_;rotate_left
               · intro w'
                 go_simp;with_reducible rfl
               rotate_left
               · simp only [Act.put,V9,VA,VB,i64_w,i32_w]
                 rfl
               refine pure_ (i := 1) (N := some 15) (v := ?_) (a' := ?_) #[U,U,Z,Z,Z,Z,Z,Z,Z,Z,Z,Z,Z,Z,Z,Z,Z,Z,Z,Z,Z,Z,Z] rfl rfl (Zs HT_.out (by kernel_rfl)) (fun _ _ _ h => h) (Or.inl ⟨by rfl,?_⟩) ?_ ?_;rotate_left
               · intro w'
                 go_simp;with_reducible rfl
               rotate_left
               · simp only [Act.put,V9,VA,VB,i64_w,i32_w]
                 rfl
               refine pure_ (i := 2) (N := some 16) (v := ?_) (a' := ?_) #[U,U,U,Z,Z,Z,Z,Z,Z,Z,Z,Z,Z,Z,Z,Z,Z,Z,Z,Z,Z,Z,Z] rfl rfl (Zs HT_.out (by kernel_rfl)) (fun _ _ _ h => h) (Or.inl ⟨by rfl,?_⟩) ?_ ?_;rotate_left
               · intro w'
                 go_simp;with_reducible rfl
               rotate_left
               · simp only [Act.put,V9,VA,VB,i64_w,i32_w]
                 rfl
               refine pure_ (i := 3) (N := some 17) (v := ?_) (a' := ?_) #[U,U,U,U,Z,Z,Z,Z,Z,Z,Z,Z,Z,Z,Z,Z,Z,Z,Z,Z,Z,Z,Z] rfl rfl (Zs HT_.out (by kernel_rfl)) (fun _ _ _ h => h) (Or.inl ⟨by rfl,?_⟩) ?_ ?_;rotate_left
               · intro w'
                 go_simp;with_reducible rfl
               rotate_left
               · simp only [Act.put,V9,VA,VB,i64_w,i32_w]
                 rfl
               refine pure_ (i := 4) (N := some 18) (v := ?_) (a' := ?_) #[U,U,U,U,U,Z,Z,Z,Z,Z,Z,Z,Z,Z,Z,Z,Z,Z,Z,Z,Z,Z,Z] rfl rfl (Zs HT_.out (by kernel_rfl)) (fun _ _ _ h => h) (Or.inl ⟨by rfl,?_⟩) ?_ ?_;rotate_left
               · intro w'
                 go_simp;with_reducible rfl
               rotate_left
               · simp only [Act.put,V9,VA,VB,i64_w,i32_w]
                 rfl
               refine pure_ (i := 5) (N := some 19) (v := ?_) (a' := ?_) #[U,U,U,U,U,U,Z,Z,Z,Z,Z,Z,Z,Z,Z,Z,Z,Z,Z,Z,Z,Z,Z] rfl rfl (Zs HT_.out (by kernel_rfl)) (fun _ _ _ h => h) (Or.inl ⟨by rfl,?_⟩) ?_ ?_;rotate_left
               · intro w'
                 go_simp;with_reducible rfl
               rotate_left
               · simp only [Act.put,V9,VA,VB,i64_w,i32_w]
                 rfl
               refine pure_ (i := 6) (N := some 20) (v := ?_) (a' := ?_) #[U,U,U,U,U,U,U,Z,Z,Z,Z,Z,Z,Z,Z,Z,Z,Z,Z,Z,Z,Z,Z] rfl rfl (Zs HT_.out (by kernel_rfl)) (fun _ _ _ h => h) (Or.inl ⟨by rfl,?_⟩) ?_ ?_;rotate_left
               · intro w'
                 go_simp;with_reducible rfl
               rotate_left
               · simp only [Act.put,V9,VA,VB,i64_w,i32_w]
                 rfl
               refine pure_ (i := 7) (N := some 21) (v := ?_) (a' := ?_) #[U,U,U,U,U,U,U,U,Z,Z,Z,Z,Z,Z,Z,Z,Z,Z,Z,Z,Z,Z,Z] rfl rfl (Zs HT_.out (by kernel_rfl)) (fun _ _ _ h => h) (Or.inl ⟨by rfl,?_⟩) ?_ ?_;rotate_left
               · intro w'
                 go_simp;with_reducible rfl
               rotate_left
               · simp only [Act.put,V9,VA,VB,i64_w,i32_w]
                 rfl
               refine pure_ (i := 9) (N := some 23) (v := ?_) (a' := ?_) #[U,U,U,U,U,U,U,U,Z,U,Z,Z,Z,Z,Z,Z,Z,Z,Z,Z,Z,Z,Z] rfl rfl (Zs HT_.out (by kernel_rfl)) (fun _ _ _ h => h) (Or.inl ⟨by rfl,?_⟩) ?_ ?_;rotate_left
               · intro w'
                 go_simp;with_reducible rfl
               rotate_left
               · simp only [Act.put,V9,VA,VB,i64_w,i32_w]
                 rfl
               refine pure_ (i := 10) (N := some 24) (v := ?_) (a' := ?_) #[U,U,U,U,U,U,U,U,Z,U,U,Z,Z,Z,Z,Z,Z,Z,Z,Z,Z,Z,Z] rfl rfl (Zs HT_.out (by kernel_rfl)) (fun _ _ _ h => h) (Or.inl ⟨by rfl,?_⟩) ?_ ?_;rotate_left
               · intro w'
                 go_simp;with_reducible rfl
               rotate_left
               · simp only [Act.put,V9,VA,VB,i64_w,i32_w]
                 rfl
               refine pure_ (i := 11) (N := some 25) (v := ?_) (a' := ?_) #[U,U,U,U,U,U,U,U,Z,U,U,U,Z,Z,Z,Z,Z,Z,Z,Z,Z,Z,Z] rfl rfl (Zs HT_.out (by kernel_rfl)) (fun _ _ _ h => h) (Or.inl ⟨by rfl,?_⟩) ?_ ?_;rotate_left
               · intro w'
                 go_simp;with_reducible rfl
               rotate_left
               · simp only [Act.put,V9,VA,VB,i64_w,i32_w]
                 rfl
               refine pure_ (i := 12) (N := some 26) (v := ?_) (a' := ?_) #[U,U,U,U,U,U,U,U,Z,U,U,U,U,Z,Z,Z,Z,Z,Z,Z,Z,Z,Z] rfl rfl (Zs HT_.out (by kernel_rfl)) (fun _ _ _ h => h) (Or.inl ⟨by rfl,?_⟩) ?_ ?_;rotate_left
               · intro w'
                 go_simp;with_reducible rfl
               rotate_left
               · simp only [Act.put,V9,VA,VB,i64_w,i32_w]
                 rfl
               refine pure_ (i := 13) (N := some 27) (v := ?_) (a' := ?_) #[U,U,U,U,U,U,U,U,Z,U,U,U,U,U,Z,Z,Z,Z,Z,Z,Z,Z,Z] rfl rfl (Zs HT_.out (by kernel_rfl)) (fun _ _ _ h => h) (Or.inl ⟨by rfl,?_⟩) ?_ ?_;rotate_left
               · intro w'
                 go_simp;with_reducible rfl
               rotate_left
               · simp only [Act.put,V9,VA,VB,i64_w,i32_w]
                 rfl
               refine pure_ (i := 16) (N := some 30) (v := ?_) (a' := ?_) #[U,U,U,U,U,U,U,U,Z,U,U,U,U,U,Z,Z,U,Z,Z,Z,Z,Z,Z] rfl rfl (Zs HT_.out (by kernel_rfl)) (fun _ _ _ h => h) (Or.inl ⟨by rfl,?_⟩) ?_ ?_;rotate_left
               · intro w'
                 go_simp;with_reducible rfl
               rotate_left
               · simp only [Act.put,V9,VA,VB,i64_w,i32_w]
                 rfl
               refine pure_ (i := 17) (N := some 31) (v := ?_) (a' := ?_) #[U,U,U,U,U,U,U,U,Z,U,U,U,U,U,Z,Z,U,U,Z,Z,Z,Z,Z] rfl rfl (Zs HT_.out (by kernel_rfl)) (fun _ _ _ h => h) (Or.inl ⟨by rfl,?_⟩) ?_ ?_;rotate_left
               · intro w'
                 go_simp;with_reducible rfl
               rotate_left
               · simp only [Act.put,V9,VA,VB,i64_w,i32_w]
                 rfl
               refine pure_ (i := 18) (N := some 32) (v := ?_) (a' := ?_) #[U,U,U,U,U,U,U,U,Z,U,U,U,U,U,Z,Z,U,U,U,Z,Z,Z,Z] rfl rfl (Zs HT_.out (by kernel_rfl)) (fun _ _ _ h => h) (Or.inl ⟨by rfl,?_⟩) ?_ ?_;rotate_left
               · intro w'
                 go_simp;with_reducible rfl
               rotate_left
               · simp only [Act.put,V9,VA,VB,i64_w,i32_w]
                 rfl
               refine pure_ (i := 19) (N := some 33) (v := ?_) (a' := ?_) #[U,U,U,U,U,U,U,U,Z,U,U,U,U,U,Z,Z,U,U,U,U,Z,Z,Z] rfl rfl (Zs HT_.out (by kernel_rfl)) (fun _ _ _ h => h) (Or.inl ⟨by rfl,?_⟩) ?_ ?_;rotate_left
               · intro w'
                 go_simp;with_reducible rfl
               rotate_left
               · simp only [Act.put,V9,VA,VB,i64_w,i32_w]
                 rfl
               refine take_ (i := 8) (N := some 22) (v := ?_) (a' := ?_) #[U,U,U,U,U,U,U,U,U,U,U,U,U,U,Z,Z,U,U,U,U,Z,Z,Z] rfl rfl (ZQ HT_.out HW_.out (by kernel_rfl)) (fun _ _ _ h => h) (Or.inl ⟨by rfl,?_⟩) hHeld ?_ ?_;rotate_left
               · rintro w' ⟨s0,s1,s2,s3,s4,s5,s6,s7,s8,s9,s10,s11⟩
                 go_simp;with_reducible rfl
               rotate_left
               · simp only [Act.put,V9,VA,VB,i64_w,i32_w]
                 rfl
               refine take_ (i := 14) (N := some 28) (v := ?_) (a' := ?_) #[U,U,U,U,U,U,U,U,U,U,U,U,U,U,U,Z,U,U,U,U,Z,Z,Z] rfl rfl (ZQ HT_.out HW_.out (by kernel_rfl)) (fun _ _ _ h => h) (Or.inl ⟨by rfl,?_⟩) hHeld ?_ ?_;rotate_left
               · rintro w' ⟨s0,s1,s2,s3,s4,s5,s6,s7,s8,s9,s10,s11⟩
                 go_simp;with_reducible rfl
               rotate_left
               · simp only [Act.put,V9,VA,VB,i64_w,i32_w]
                 rfl
               refine pure_ (i := 15) (N := some 29) (v := ?_) (a' := ?_) #[U,U,U,U,U,U,U,U,U,U,U,U,U,U,U,U,U,U,U,U,Z,Z,Z] rfl rfl (Zs HT_.out (by kernel_rfl)) (fun _ _ _ h => h) (Or.inl ⟨by rfl,?_⟩) ?_ ?_;rotate_left
               · intro w'
                 go_simp;with_reducible rfl
               rotate_left
               · simp only [Act.put,V9,VA,VB,i64_w,i32_w]
                 rfl
               refine take_ (i := 20) (N := some 34) (v := ?_) (a' := ?_) #[U,U,U,U,U,U,U,U,U,U,U,U,U,U,U,U,U,U,U,U,U,Z,Z] rfl rfl (ZQ HT_.out HW_.out (by kernel_rfl)) (fun _ _ _ h => h) (Or.inl ⟨by rfl,?_⟩) hHeld ?_ ?_;rotate_left
               · rintro w' ⟨s0,s1,s2,s3,s4,s5,s6,s7,s8,s9,s10,s11⟩
                 go_simp;with_reducible rfl
               rotate_left
               · simp only [Act.put,V9,VA,VB,i64_w,i32_w]
                 rfl
               refine pure_ (i := 21) (N := some 35) (v := ?_) (a' := ?_) #[U,U,U,U,U,U,U,U,U,U,U,U,U,U,U,U,U,U,U,U,U,U,Z] rfl rfl (Zs HT_.out (by kernel_rfl)) (fun _ _ _ h => h) (Or.inl ⟨by rfl,?_⟩) ?_ ?_;rotate_left
               · intro w'
                 go_simp;with_reducible rfl
               rotate_left
               · simp only [Act.put,V9,VA,VB,i64_w,i32_w]
                 rfl
               refine pure_ (i := 22) (N := some 36) (v := ?_) (a' := ?_) #[U,U,U,U,U,U,U,U,U,U,U,U,U,U,U,U,U,U,U,U,U,U,U] rfl rfl (Zs HT_.out (by kernel_rfl)) (fun _ _ _ h => h) (Or.inl ⟨by rfl,?_⟩) ?_ ?_;rotate_left
               · intro w'
                 go_simp;with_reducible rfl
               rotate_left
               · simp only [Act.put,V9,VA,VB,i64_w,i32_w]
                 rfl
               refine done_ (XV HT_.out (by kernel_rfl)) ?_
               try go_wp2
               have n0_ := Zb.mk (Kd.Zm HO_3.out);have n1_ := Zb.mk (Zd HB.out);clear HO_3;clear HB;have HO_3 := n0_;have HB := n1_;clear n0_ n1_;have p281 : 0 ≤ ((ji4) : Int) := of_decide_eq_true (by first | (with_reducible assumption) | assumption);have q281 : (ji4) < (x3_1.length : Int) := of_decide_eq_true (by first | (with_reducible assumption) | assumption);obtain ⟨ad281,e281,hx281_0,hx281_1,hx281_2,hx281_3⟩ := Z4 (Kd.Z3 HO_3.out).2.2 (ji4) p281 q281
               obtain rfl : ad278 = ad281 := (by injection e281)
               replace p281 := eq_true p281;replace q281 := eq_true q281;have p282 : 0 ≤ (x4_1 : Int) := of_decide_eq_true (by first | (with_reducible assumption) | assumption);have q282 : x4_1 < (l0.length : Int) := of_decide_eq_true (by first | (with_reducible assumption) | assumption);obtain ⟨ad282,e282,hx282_0,hx282_1,hx282_2,hx282_3⟩ := Z4 HR0.out x4_1 p282 q282;have hw282_3 := hx282_3;have hw282_2 := hx282_2;have hw282_1 := hx282_1;have hw282_0 := hx282_0
               obtain rfl : ad280 = ad282 := (by injection e282)
               replace hx282_0 := (HB.out.cell (World.block_lt_of_cell? w _ hx282_0)).trans hx282_0;replace hx282_1 := (HB.out.cell (World.block_lt_of_cell? w _ hx282_1)).trans hx282_1;replace hx282_2 := (HB.out.cell (World.block_lt_of_cell? w _ hx282_2)).trans hx282_2;replace hx282_3 := (HB.out.cell (World.block_lt_of_cell? w _ hx282_3)).trans hx282_3;replace p282 := eq_true p282;replace q282 := eq_true q282;have p9 : 0 ≤ ((ji4) : Int) := of_decide_eq_true (by first | (with_reducible assumption) | assumption);have q9 : ((ji4) : Int) < ((x3_1.length : Int) : Int) := of_decide_eq_true (by first | (with_reducible assumption) | assumption);obtain ⟨go9,co9,eo9,gb9,gl9,cl9,HG9⟩ := Kd.JA HO_3.out (by omega)
               (first | cases eo9 | (injection eo9 with ea_ en_ ec_;(first | subst ea_ | (injection ea_ with ea_;subst ea_));subst ec_;clear en_))
               have GB9 := Zb.mk gb9;have GG9 := Zb.mk HG9;clear gb9 gl9 HG9
               (first | simp only [ZT] at hx278_0 | skip)
               (first | simp only [ZT] at hx278_1 | skip)
               (first | simp only [ZT] at hx278_2 | skip)
               (first | simp only [ZT] at hx278_3 | skip)
               (first | simp only [ZT] at hx279_0 | skip)
               (first | simp only [ZT] at hx279_1 | skip)
               (first | simp only [ZT] at hx279_2 | skip)
               (first | simp only [ZT] at hx279_3 | skip)
               (first | simp only [ZT] at hx281_0 | skip)
               (first | simp only [ZT] at hx281_1 | skip)
               (first | simp only [ZT] at hx281_2 | skip)
               (first | simp only [ZT] at hx281_3 | skip)
               obtain ⟨ce9,hcl9,hM9,hcc9,hfr9⟩ := Kd.Qr HO_3.out z43 ((ji4) : Int) p9 q9;obtain rfl := XQ hM9;have hx9_0 : World.cell? _ ⟨go9,((ji4) : Int).toNat * 4,none⟩ = some (.int .i64 ((Ze x3_1 (ji4)).f0)) := hcc9 0 _ rfl;have hx9_1 : World.cell? _ ⟨go9,((ji4) : Int).toNat * 4 + 1,none⟩ = some (.int .i64 ((Ze x3_1 (ji4)).f1)) := hcc9 1 _ rfl;have hx9_2 : World.cell? _ ⟨go9,((ji4) : Int).toNat * 4 + 2,none⟩ = some (.int .i64 ((Ze x3_1 (ji4)).f2)) := hcc9 2 _ rfl;have hx9_3 : World.cell? _ ⟨go9,((ji4) : Int).toNat * 4 + 3,none⟩ = some (.int .i64 ((Ze x3_1 (ji4)).f3)) := hcc9 3 _ rfl;have hf9_0 : World.frozen? _ ⟨go9,((ji4) : Int).toNat * 4,none⟩ = false := hfr9 0;have hf9_1 : World.frozen? _ ⟨go9,((ji4) : Int).toNat * 4 + 1,none⟩ = false := hfr9 1;have hf9_2 : World.frozen? _ ⟨go9,((ji4) : Int).toNat * 4 + 2,none⟩ = false := hfr9 2;have hf9_3 : World.frozen? _ ⟨go9,((ji4) : Int).toNat * 4 + 3,none⟩ = false := hfr9 3;clear hcl9 hcc9 hfr9 hM9;replace p9 := eq_true p9;replace q9 := eq_true q9;obtain ⟨ce13,hcl13,hM13,hcc13,hfr13⟩ := Kd.Qr HO_3.out z43 ((ji4) : Int) (of_decide_eq_true (by first | (with_reducible assumption) | assumption)) (by have h_ : ((ji4) : Int) < ((x3_1.length : Int) : Int) := of_decide_eq_true (by first | (with_reducible assumption) | assumption);first | exact h_ | (have e_ := (Kd.Z3 HO_3.out).1;omega) | simpa using h_);obtain rfl := XQ hM13;have HP13 := (Kd.R_seg HO_3.out ((ji4) : Int) (of_decide_eq_true (by first | (with_reducible assumption) | assumption)) (by have h_ : ((ji4) : Int) < ((x3_1.length : Int) : Int) := of_decide_eq_true (by first | (with_reducible assumption) | assumption);first | exact h_ | (have e_ := (Kd.Z3 HO_3.out).1;omega) | simpa using h_) (seg := [.int .i64 (wrap64 (((Ze x3_1 (ji4)).f2) + ((Ze l0 x4_1).f2)))]) (j := 2) hcl13 hcc13 (show 3 ≤ 4 from by decide) (x' := (⟨(Ze x3_1 (ji4)).f0,(Ze x3_1 (ji4)).f1,wrap64 (((Ze x3_1 (ji4)).f2) + ((Ze l0 x4_1).f2)),(Ze x3_1 (ji4)).f3⟩ : S43)) (Xs _ _ _ (⟨(Ze x3_1 (ji4)).f0,(Ze x3_1 (ji4)).f1,wrap64 (((Ze x3_1 (ji4)).f2) + ((Ze l0 x4_1).f2)),(Ze x3_1 (ji4)).f3⟩ : S43) ) (fun _ hk => hk)).1;rw [← Ny283.out] at HP13;have HQ13 := Zb.mk HP13;clear hcl13 hcc13 hfr13 hM13 HP13;refine Qn (n := 15) (S := fun w' => w'.cell? ⟨go9,((ji4)).toNat * 4,none⟩ = some (.int .i64 ((Ze x3_1 (ji4)).f0)) ∧ w'.cell? ⟨go9,((ji4)).toNat * 4 + 1,none⟩ = some (.int .i64 ((Ze x3_1 (ji4)).f1)) ∧ w'.cell? ⟨go9,((ji4)).toNat * 4 + 2,none⟩ = some (.int .i64 ((Ze x3_1 (ji4)).f2)) ∧ w'.cell? ⟨go9,((ji4)).toNat * 4 + 3,none⟩ = some (.int .i64 ((Ze x3_1 (ji4)).f3)) ∧ w'.cell? (ad280.add ((x4_1).toNat * 4)) = some (.int .i64 ((Ze l0 x4_1).f0)) ∧ w'.cell? ⟨(ad280.add ((x4_1).toNat * 4)).block,(ad280.add ((x4_1).toNat * 4)).off + 1,none⟩ = some (.int .i64 ((Ze l0 x4_1).f1)) ∧ w'.cell? ⟨(ad280.add ((x4_1).toNat * 4)).block,(ad280.add ((x4_1).toNat * 4)).off + 2,none⟩ = some (.int .i64 ((Ze l0 x4_1).f2)) ∧ w'.cell? ⟨(ad280.add ((x4_1).toNat * 4)).block,(ad280.add ((x4_1).toNat * 4)).off + 3,none⟩ = some (.int .i64 ((Ze l0 x4_1).f3))) (ds := [14]) #[Z,Z,Z,Z,Z,Z,Z,Z,Z,Z,Z,Z,Z,Z,Z] (by kernel_rfl) rfl rfl ⟨hx281_0,hx281_1,hx281_2,hx281_3,((HB.out.cell (World.block_lt_of_cell? w _ hw282_0)).trans hw282_0),((HB.out.cell (World.block_lt_of_cell? w _ hw282_1)).trans hw282_1),((HB.out.cell (World.block_lt_of_cell? w _ hw282_2)).trans hw282_2),((HB.out.cell (World.block_lt_of_cell? w _ hw282_3)).trans hw282_3)⟩ (fun hHeld => ?_);refine XC Zv.tab7 Zv.bits7 (fun HT_ HW_ => ?_);generalize w11.drew = w12 at HO_3 HB GG9 HQ13 hf9_0 hf9_1 hf9_2 hf9_3 hx278_0 hx278_1 hx278_2 hx278_3 hx279_0 hx279_1 hx279_2 hx279_3 hx281_0 hx281_1 hx281_2 hx281_3 hx282_0 hx282_1 hx282_2 hx282_3 hx9_0 hx9_1 hx9_2 hx9_3 hHeld ⊢;refine pure_ (i := 0) (N := some 37) (v := ?_) (a' := ?_) #[U,Z,Z,Z,Z,Z,Z,Z,Z,Z,Z,Z,Z,Z,Z] rfl rfl (Zs HT_.out (by kernel_rfl)) (fun _ _ _ h => h) (Or.inl ⟨by rfl,?_⟩) ?_ ?_;rotate_left
               · intro w'
                 go_simp;with_reducible rfl
               rotate_left
               · simp only [Act.put,V9,VA,VB,i64_w,i32_w]
                 rfl
               refine pure_ (i := 1) (N := some 38) (v := ?_) (a' := ?_) #[U,U,Z,Z,Z,Z,Z,Z,Z,Z,Z,Z,Z,Z,Z] rfl rfl (Zs HT_.out (by kernel_rfl)) (fun _ _ _ h => h) (Or.inl ⟨by rfl,?_⟩) ?_ ?_;rotate_left
               · intro w'
                 go_simp;with_reducible rfl
               rotate_left
               · simp only [Act.put,V9,VA,VB,i64_w,i32_w]
                 rfl
               refine pure_ (i := 2) (N := some 39) (v := ?_) (a' := ?_) #[U,U,U,Z,Z,Z,Z,Z,Z,Z,Z,Z,Z,Z,Z] rfl rfl (Zs HT_.out (by kernel_rfl)) (fun _ _ _ h => h) (Or.inl ⟨by rfl,?_⟩) ?_ ?_;rotate_left
               · intro w'
                 go_simp;with_reducible rfl
               rotate_left
               · simp only [Act.put,V9,VA,VB,i64_w,i32_w]
                 rfl
               refine pure_ (i := 3) (N := some 40) (v := ?_) (a' := ?_) #[U,U,U,U,Z,Z,Z,Z,Z,Z,Z,Z,Z,Z,Z] rfl rfl (Zs HT_.out (by kernel_rfl)) (fun _ _ _ h => h) (Or.inl ⟨by rfl,?_⟩) ?_ ?_;rotate_left
               · intro w'
                 go_simp;with_reducible rfl
               rotate_left
               · simp only [Act.put,V9,VA,VB,i64_w,i32_w]
                 rfl
               refine pure_ (i := 4) (N := some 41) (v := ?_) (a' := ?_) #[U,U,U,U,U,Z,Z,Z,Z,Z,Z,Z,Z,Z,Z] rfl rfl (Zs HT_.out (by kernel_rfl)) (fun _ _ _ h => h) (Or.inl ⟨by rfl,?_⟩) ?_ ?_;rotate_left
               · intro w'
                 go_simp;with_reducible rfl
               rotate_left
               · simp only [Act.put,V9,VA,VB,i64_w,i32_w]
                 rfl
               refine pure_ (i := 6) (N := some 43) (v := ?_) (a' := ?_) #[U,U,U,U,U,Z,U,Z,Z,Z,Z,Z,Z,Z,Z] rfl rfl (Zs HT_.out (by kernel_rfl)) (fun _ _ _ h => h) (Or.inl ⟨by rfl,?_⟩) ?_ ?_;rotate_left
               · intro w'
                 go_simp;with_reducible rfl
               rotate_left
               · simp only [Act.put,V9,VA,VB,i64_w,i32_w]
                 rfl
               refine pure_ (i := 7) (N := some 44) (v := ?_) (a' := ?_) #[U,U,U,U,U,Z,U,U,Z,Z,Z,Z,Z,Z,Z] rfl rfl (Zs HT_.out (by kernel_rfl)) (fun _ _ _ h => h) (Or.inl ⟨by rfl,?_⟩) ?_ ?_;rotate_left
               · intro w'
                 go_simp;with_reducible rfl
               rotate_left
               · simp only [Act.put,V9,VA,VB,i64_w,i32_w]
                 rfl
               refine pure_ (i := 8) (N := some 45) (v := ?_) (a' := ?_) #[U,U,U,U,U,Z,U,U,U,Z,Z,Z,Z,Z,Z] rfl rfl (Zs HT_.out (by kernel_rfl)) (fun _ _ _ h => h) (Or.inl ⟨by rfl,?_⟩) ?_ ?_;rotate_left
               · intro w'
                 go_simp;with_reducible rfl
               rotate_left
               · simp only [Act.put,V9,VA,VB,i64_w,i32_w]
                 rfl
               refine pure_ (i := 9) (N := some 46) (v := ?_) (a' := ?_) #[U,U,U,U,U,Z,U,U,U,U,Z,Z,Z,Z,Z] rfl rfl (Zs HT_.out (by kernel_rfl)) (fun _ _ _ h => h) (Or.inl ⟨by rfl,?_⟩) ?_ ?_;rotate_left
               · intro w'
                 go_simp;with_reducible rfl
               rotate_left
               · simp only [Act.put,V9,VA,VB,i64_w,i32_w]
                 rfl
               refine take_ (i := 5) (N := some 42) (v := ?_) (a' := ?_) #[U,U,U,U,U,U,U,U,U,U,Z,Z,Z,Z,Z] rfl rfl (ZQ HT_.out HW_.out (by kernel_rfl)) (fun _ _ _ h => h) (Or.inl ⟨by rfl,?_⟩) hHeld ?_ ?_;rotate_left
               · rintro w' ⟨s0,s1,s2,s3,s4,s5,s6,s7⟩
                 go_simp;with_reducible rfl
               rotate_left
               · simp only [Act.put,V9,VA,VB,i64_w,i32_w]
                 rfl
               refine take_ (i := 10) (N := some 47) (v := ?_) (a' := ?_) #[U,U,U,U,U,U,U,U,U,U,U,Z,Z,Z,Z] rfl rfl (ZQ HT_.out HW_.out (by kernel_rfl)) (fun _ _ _ h => h) (Or.inl ⟨by rfl,?_⟩) hHeld ?_ ?_;rotate_left
               · rintro w' ⟨s0,s1,s2,s3,s4,s5,s6,s7⟩
                 go_simp;with_reducible rfl
               rotate_left
               · simp only [Act.put,V9,VA,VB,i64_w,i32_w]
                 rfl
               refine pure_ (i := 11) (N := some 48) (v := ?_) (a' := ?_) #[U,U,U,U,U,U,U,U,U,U,U,U,Z,Z,Z] rfl rfl (Zs HT_.out (by kernel_rfl)) (fun _ _ _ h => h) (Or.inl ⟨by rfl,?_⟩) ?_ ?_;rotate_left
               · intro w'
                 go_simp;with_reducible rfl
               rotate_left
               · simp only [Act.put,V9,VA,VB,i64_w,i32_w]
                 rfl
               refine pure_ (i := 12) (N := some 49) (v := ?_) (a' := ?_) #[U,U,U,U,U,U,U,U,U,U,U,U,U,Z,Z] rfl rfl (Zs HT_.out (by kernel_rfl)) (fun _ _ _ h => h) (Or.inl ⟨by rfl,?_⟩) ?_ ?_;rotate_left
               · intro w'
                 go_simp;with_reducible rfl
               rotate_left
               · simp only [Act.put,V9,VA,VB,i64_w,i32_w]
                 rfl
               refine pure_ (i := 13) (N := some 50) (v := ?_) (a' := ?_) #[U,U,U,U,U,U,U,U,U,U,U,U,U,U,Z] rfl rfl (Zs HT_.out (by kernel_rfl)) (fun _ _ _ h => h) (Or.inl ⟨by rfl,?_⟩) ?_ ?_;rotate_left
               · intro w'
                 go_simp;with_reducible rfl
               rotate_left
               · simp only [Act.put,V9,VA,VB,i64_w,i32_w]
                 rfl
               refine last_ (i := 14) (N := none) #[U,U,U,U,U,U,U,U,U,U,U,U,U,U,U] rfl rfl (XB HT_.out (by kernel_rfl)) (by decide) (fun K hK => ?_);refine skip_ (w1 := ?_) (by rfl) rfl ?_ ?_;rotate_left
               · go_simp
                 rfl
               refine hK.out _ _ ?_;clear hK K;refine done_ (XV HT_.out (by kernel_rfl)) ?_
               try go_wp2
               go_roundg k1
               case measure => have := HK1.out;omega
               case rel => exact ⟨(y283),(wrap64 (x4_1 + 1)),(by first | rfl | (simp;done) | (simp [*];done)),H',⟨by have := HK1.out;omega⟩,⟨by (with_reducible repeat (first | apply Kd.Zj | apply Kd.Zi | apply Kd.Zm));exact HQ13.out⟩,⟨by repeat (first | (with_reducible first | exact HB.out | apply Zf | apply Za | apply Zd | refine Zo ?_ GB9.out) | exact HB.out)⟩⟩
             · rw [if_neg c8] at H
               have c8b0 : ((wrap64 (((Ze x3_1 (ji4)).f0) + ((Ze x3_1 (ji4)).f2))) == ((Ze l0 x4_1).f0)) = false := beq_eq_false_iff_ne.mpr c8;have c8b1 : ((wrap64 (((Ze x3_1 (ji4)).f0) + ((Ze x3_1 (ji4)).f2))) != ((Ze l0 x4_1).f0)) = true := bne_iff_ne.mpr c8
               by_cases c14 : x3_1.length < 4398046511104
               · rw [if_pos c14] at H
                 have LMc14 := Zb.mk c14;clear c14
                 obtain ⟨y285,hy285⟩ : ∃ y_ : List (S43),y_ = (x3_1 ++ [(⟨(Ze l0 x4_1).f0,(Ze l0 x4_1).f1,(Ze l0 x4_1).f2,(Ze l0 x4_1).f3⟩ : S43)]) := ⟨_,rfl⟩
                 replace H : (Zv.l0 k1 l0 y285 (wrap64 (x4_1 + 1))) = some r := by first | (rw [hy285];with_reducible exact H) | (have H2_ := (Option.bind_some _ _).symm.trans H;rw [hy285];with_reducible exact H2_) | (have H2_ := (Option.bind_some _ _).symm.trans H;with_reducible exact H2_) | with_reducible exact H | (rw [hy285];exact H) | exact H
                 have Ny285 := Zb.mk hy285;clear hy285;have H' := Zb.mk H;clear H;obtain ⟨Ao15,co15,eo15⟩ := Kd.ZS HO_3.out;subst eo15
                 try go_wp2
                 have n0_ := Zb.mk (Kd.Zm HO_3.out);have n1_ := Zb.mk (Zd HB.out);clear HO_3;clear HB;have HO_3 := n0_;have HB := n1_;clear n0_ n1_;have p278 : 0 ≤ ((ji4) : Int) := of_decide_eq_true (by first | (with_reducible assumption) | assumption);have q278 : (ji4) < (x3_1.length : Int) := of_decide_eq_true (by first | (with_reducible assumption) | assumption);obtain ⟨ad278,e278,hx278_0,hx278_1,hx278_2,hx278_3⟩ := Z4 (Kd.Z3 HO_3.out).2.2 (ji4) p278 q278
                 cases e278
                 replace p278 := eq_true p278;replace q278 := eq_true q278;have p279 : 0 ≤ ((ji4) : Int) := of_decide_eq_true (by first | (with_reducible assumption) | assumption);have q279 : (ji4) < (x3_1.length : Int) := of_decide_eq_true (by first | (with_reducible assumption) | assumption);obtain ⟨ad279,e279,hx279_0,hx279_1,hx279_2,hx279_3⟩ := Z4 (Kd.Z3 HO_3.out).2.2 (ji4) p279 q279
                 obtain rfl : ad278 = ad279 := (by injection e279)
                 replace p279 := eq_true p279;replace q279 := eq_true q279;have p280 : 0 ≤ (x4_1 : Int) := of_decide_eq_true (by first | (with_reducible assumption) | assumption);have q280 : x4_1 < (l0.length : Int) := of_decide_eq_true (by first | (with_reducible assumption) | assumption);obtain ⟨ad280,e280,hx280_0,hx280_1,hx280_2,hx280_3⟩ := Z4 HR0.out x4_1 p280 q280;have hw280_3 := hx280_3;have hw280_2 := hx280_2;have hw280_1 := hx280_1;have hw280_0 := hx280_0
                 cases e280
                 replace hx280_0 := (HB.out.cell (World.block_lt_of_cell? w _ hx280_0)).trans hx280_0;replace hx280_1 := (HB.out.cell (World.block_lt_of_cell? w _ hx280_1)).trans hx280_1;replace hx280_2 := (HB.out.cell (World.block_lt_of_cell? w _ hx280_2)).trans hx280_2;replace hx280_3 := (HB.out.cell (World.block_lt_of_cell? w _ hx280_3)).trans hx280_3;replace p280 := eq_true p280;replace q280 := eq_true q280;refine Qn (n := 23) (S := fun w' => w'.cell? (ad278.add (((ji4)).toNat * 4)) = some (.int .i64 ((Ze x3_1 (ji4)).f0)) ∧ w'.cell? ⟨(ad278.add (((ji4)).toNat * 4)).block,(ad278.add (((ji4)).toNat * 4)).off + 1,none⟩ = some (.int .i64 ((Ze x3_1 (ji4)).f1)) ∧ w'.cell? ⟨(ad278.add (((ji4)).toNat * 4)).block,(ad278.add (((ji4)).toNat * 4)).off + 2,none⟩ = some (.int .i64 ((Ze x3_1 (ji4)).f2)) ∧ w'.cell? ⟨(ad278.add (((ji4)).toNat * 4)).block,(ad278.add (((ji4)).toNat * 4)).off + 3,none⟩ = some (.int .i64 ((Ze x3_1 (ji4)).f3)) ∧ w'.cell? (ad278.add (((ji4)).toNat * 4)) = some (.int .i64 ((Ze x3_1 (ji4)).f0)) ∧ w'.cell? ⟨(ad278.add (((ji4)).toNat * 4)).block,(ad278.add (((ji4)).toNat * 4)).off + 1,none⟩ = some (.int .i64 ((Ze x3_1 (ji4)).f1)) ∧ w'.cell? ⟨(ad278.add (((ji4)).toNat * 4)).block,(ad278.add (((ji4)).toNat * 4)).off + 2,none⟩ = some (.int .i64 ((Ze x3_1 (ji4)).f2)) ∧ w'.cell? ⟨(ad278.add (((ji4)).toNat * 4)).block,(ad278.add (((ji4)).toNat * 4)).off + 3,none⟩ = some (.int .i64 ((Ze x3_1 (ji4)).f3)) ∧ w'.cell? (ad280.add ((x4_1).toNat * 4)) = some (.int .i64 ((Ze l0 x4_1).f0)) ∧ w'.cell? ⟨(ad280.add ((x4_1).toNat * 4)).block,(ad280.add ((x4_1).toNat * 4)).off + 1,none⟩ = some (.int .i64 ((Ze l0 x4_1).f1)) ∧ w'.cell? ⟨(ad280.add ((x4_1).toNat * 4)).block,(ad280.add ((x4_1).toNat * 4)).off + 2,none⟩ = some (.int .i64 ((Ze l0 x4_1).f2)) ∧ w'.cell? ⟨(ad280.add ((x4_1).toNat * 4)).block,(ad280.add ((x4_1).toNat * 4)).off + 3,none⟩ = some (.int .i64 ((Ze l0 x4_1).f3))) (ds := []) #[Z,Z,Z,Z,Z,Z,Z,Z,Z,Z,Z,Z,Z,Z,Z,Z,Z,Z,Z,Z,Z,Z,Z] (by kernel_rfl) rfl rfl ⟨hx278_0,hx278_1,hx278_2,hx278_3,hx279_0,hx279_1,hx279_2,hx279_3,((HB.out.cell (World.block_lt_of_cell? w _ hw280_0)).trans hw280_0),((HB.out.cell (World.block_lt_of_cell? w _ hw280_1)).trans hw280_1),((HB.out.cell (World.block_lt_of_cell? w _ hw280_2)).trans hw280_2),((HB.out.cell (World.block_lt_of_cell? w _ hw280_3)).trans hw280_3)⟩ (fun hHeld => ?_);refine XC Zv.tab6 Zv.bits6 (fun HT_ HW_ => ?_);generalize wr.drew = w16 at HO_3 HB hx278_0 hx278_1 hx278_2 hx278_3 hx279_0 hx279_1 hx279_2 hx279_3 hx280_0 hx280_1 hx280_2 hx280_3 hHeld ⊢;refine pure_ (i := 0) (N := some 14) (v := ?_) (a' := ?_) #[U,Z,Z,Z,Z,Z,Z,Z,Z,Z,Z,Z,Z,Z,Z,Z,Z,Z,Z,Z,Z,Z,Z] rfl rfl (Zs HT_.out (by kernel_rfl)) (fun _ _ _ h => h) (Or.inl ⟨by rfl,?_⟩) ?_ ?_;rotate_left
                 · intro w'
                   go_simp;with_reducible rfl
                 rotate_left
                 · simp only [Act.put,V9,VA,VB,i64_w,i32_w]
                   rfl
                 refine pure_ (i := 1) (N := some 15) (v := ?_) (a' := ?_) #[U,U,Z,Z,Z,Z,Z,Z,Z,Z,Z,Z,Z,Z,Z,Z,Z,Z,Z,Z,Z,Z,Z] rfl rfl (Zs HT_.out (by kernel_rfl)) (fun _ _ _ h => h) (Or.inl ⟨by rfl,?_⟩) ?_ ?_;rotate_left
                 · intro w'
                   go_simp;with_reducible rfl
                 rotate_left
                 · simp only [Act.put,V9,VA,VB,i64_w,i32_w]
                   rfl
                 refine pure_ (i := 2) (N := some 16) (v := ?_) (a' := ?_) #[U,U,U,Z,Z,Z,Z,Z,Z,Z,Z,Z,Z,Z,Z,Z,Z,Z,Z,Z,Z,Z,Z] rfl rfl (Zs HT_.out (by kernel_rfl)) (fun _ _ _ h => h) (Or.inl ⟨by rfl,?_⟩) ?_ ?_;rotate_left
                 · intro w'
                   go_simp;with_reducible rfl
                 rotate_left
                 · simp only [Act.put,V9,VA,VB,i64_w,i32_w]
                   rfl
                 refine pure_ (i := 3) (N := some 17) (v := ?_) (a' := ?_) #[U,U,U,U,Z,Z,Z,Z,Z,Z,Z,Z,Z,Z,Z,Z,Z,Z,Z,Z,Z,Z,Z] rfl rfl (Zs HT_.out (by kernel_rfl)) (fun _ _ _ h => h) (Or.inl ⟨by rfl,?_⟩) ?_ ?_;rotate_left
                 · intro w'
                   go_simp;with_reducible rfl
                 rotate_left
                 · simp only [Act.put,V9,VA,VB,i64_w,i32_w]
                   rfl
                 refine pure_ (i := 4) (N := some 18) (v := ?_) (a' := ?_) #[U,U,U,U,U,Z,Z,Z,Z,Z,Z,Z,Z,Z,Z,Z,Z,Z,Z,Z,Z,Z,Z] rfl rfl (Zs HT_.out (by kernel_rfl)) (fun _ _ _ h => h) (Or.inl ⟨by rfl,?_⟩) ?_ ?_;rotate_left
                 · intro w'
                   go_simp;with_reducible rfl
                 rotate_left
                 · simp only [Act.put,V9,VA,VB,i64_w,i32_w]
                   rfl
                 refine pure_ (i := 5) (N := some 19) (v := ?_) (a' := ?_) #[U,U,U,U,U,U,Z,Z,Z,Z,Z,Z,Z,Z,Z,Z,Z,Z,Z,Z,Z,Z,Z] rfl rfl (Zs HT_.out (by kernel_rfl)) (fun _ _ _ h => h) (Or.inl ⟨by rfl,?_⟩) ?_ ?_;rotate_left
                 · intro w'
                   go_simp;with_reducible rfl
                 rotate_left
                 · simp only [Act.put,V9,VA,VB,i64_w,i32_w]
                   rfl
                 refine pure_ (i := 6) (N := some 20) (v := ?_) (a' := ?_) #[U,U,U,U,U,U,U,Z,Z,Z,Z,Z,Z,Z,Z,Z,Z,Z,Z,Z,Z,Z,Z] rfl rfl (Zs HT_.out (by kernel_rfl)) (fun _ _ _ h => h) (Or.inl ⟨by rfl,?_⟩) ?_ ?_;rotate_left
                 · intro w'
                   go_simp;with_reducible rfl
                 rotate_left
                 · simp only [Act.put,V9,VA,VB,i64_w,i32_w]
                   rfl
                 refine pure_ (i := 7) (N := some 21) (v := ?_) (a' := ?_) #[U,U,U,U,U,U,U,U,Z,Z,Z,Z,Z,Z,Z,Z,Z,Z,Z,Z,Z,Z,Z] rfl rfl (Zs HT_.out (by kernel_rfl)) (fun _ _ _ h => h) (Or.inl ⟨by rfl,?_⟩) ?_ ?_;rotate_left
                 · intro w'
                   go_simp;with_reducible rfl
                 rotate_left
                 · simp only [Act.put,V9,VA,VB,i64_w,i32_w]
                   rfl
                 refine pure_ (i := 9) (N := some 23) (v := ?_) (a' := ?_) #[U,U,U,U,U,U,U,U,Z,U,Z,Z,Z,Z,Z,Z,Z,Z,Z,Z,Z,Z,Z] rfl rfl (Zs HT_.out (by kernel_rfl)) (fun _ _ _ h => h) (Or.inl ⟨by rfl,?_⟩) ?_ ?_;rotate_left
                 · intro w'
                   go_simp;with_reducible rfl
                 rotate_left
                 · simp only [Act.put,V9,VA,VB,i64_w,i32_w]
                   rfl
                 refine pure_ (i := 10) (N := some 24) (v := ?_) (a' := ?_) #[U,U,U,U,U,U,U,U,Z,U,U,Z,Z,Z,Z,Z,Z,Z,Z,Z,Z,Z,Z] rfl rfl (Zs HT_.out (by kernel_rfl)) (fun _ _ _ h => h) (Or.inl ⟨by rfl,?_⟩) ?_ ?_;rotate_left
                 · intro w'
                   go_simp;with_reducible rfl
                 rotate_left
                 · simp only [Act.put,V9,VA,VB,i64_w,i32_w]
                   rfl
                 refine pure_ (i := 11) (N := some 25) (v := ?_) (a' := ?_) #[U,U,U,U,U,U,U,U,Z,U,U,U,Z,Z,Z,Z,Z,Z,Z,Z,Z,Z,Z] rfl rfl (Zs HT_.out (by kernel_rfl)) (fun _ _ _ h => h) (Or.inl ⟨by rfl,?_⟩) ?_ ?_;rotate_left
                 · intro w'
                   go_simp;with_reducible rfl
                 rotate_left
                 · simp only [Act.put,V9,VA,VB,i64_w,i32_w]
                   rfl
                 refine pure_ (i := 12) (N := some 26) (v := ?_) (a' := ?_) #[U,U,U,U,U,U,U,U,Z,U,U,U,U,Z,Z,Z,Z,Z,Z,Z,Z,Z,Z] rfl rfl (Zs HT_.out (by kernel_rfl)) (fun _ _ _ h => h) (Or.inl ⟨by rfl,?_⟩) ?_ ?_;rotate_left
                 · intro w'
                   go_simp;with_reducible rfl
                 rotate_left
                 · simp only [Act.put,V9,VA,VB,i64_w,i32_w]
                   rfl
                 refine pure_ (i := 13) (N := some 27) (v := ?_) (a' := ?_) #[U,U,U,U,U,U,U,U,Z,U,U,U,U,U,Z,Z,Z,Z,Z,Z,Z,Z,Z] rfl rfl (Zs HT_.out (by kernel_rfl)) (fun _ _ _ h => h) (Or.inl ⟨by rfl,?_⟩) ?_ ?_;rotate_left
                 · intro w'
                   go_simp;with_reducible rfl
                 rotate_left
                 · simp only [Act.put,V9,VA,VB,i64_w,i32_w]
                   rfl
                 refine pure_ (i := 16) (N := some 30) (v := ?_) (a' := ?_) #[U,U,U,U,U,U,U,U,Z,U,U,U,U,U,Z,Z,U,Z,Z,Z,Z,Z,Z] rfl rfl (Zs HT_.out (by kernel_rfl)) (fun _ _ _ h => h) (Or.inl ⟨by rfl,?_⟩) ?_ ?_;rotate_left
                 · intro w'
                   go_simp;with_reducible rfl
                 rotate_left
                 · simp only [Act.put,V9,VA,VB,i64_w,i32_w]
                   rfl
                 refine pure_ (i := 17) (N := some 31) (v := ?_) (a' := ?_) #[U,U,U,U,U,U,U,U,Z,U,U,U,U,U,Z,Z,U,U,Z,Z,Z,Z,Z] rfl rfl (Zs HT_.out (by kernel_rfl)) (fun _ _ _ h => h) (Or.inl ⟨by rfl,?_⟩) ?_ ?_;rotate_left
                 · intro w'
                   go_simp;with_reducible rfl
                 rotate_left
                 · simp only [Act.put,V9,VA,VB,i64_w,i32_w]
                   rfl
                 refine pure_ (i := 18) (N := some 32) (v := ?_) (a' := ?_) #[U,U,U,U,U,U,U,U,Z,U,U,U,U,U,Z,Z,U,U,U,Z,Z,Z,Z] rfl rfl (Zs HT_.out (by kernel_rfl)) (fun _ _ _ h => h) (Or.inl ⟨by rfl,?_⟩) ?_ ?_;rotate_left
                 · intro w'
                   go_simp;with_reducible rfl
                 rotate_left
                 · simp only [Act.put,V9,VA,VB,i64_w,i32_w]
                   rfl
                 refine pure_ (i := 19) (N := some 33) (v := ?_) (a' := ?_) #[U,U,U,U,U,U,U,U,Z,U,U,U,U,U,Z,Z,U,U,U,U,Z,Z,Z] rfl rfl (Zs HT_.out (by kernel_rfl)) (fun _ _ _ h => h) (Or.inl ⟨by rfl,?_⟩) ?_ ?_;rotate_left
                 · intro w'
                   go_simp;with_reducible rfl
                 rotate_left
                 · simp only [Act.put,V9,VA,VB,i64_w,i32_w]
                   rfl
                 refine take_ (i := 8) (N := some 22) (v := ?_) (a' := ?_) #[U,U,U,U,U,U,U,U,U,U,U,U,U,U,Z,Z,U,U,U,U,Z,Z,Z] rfl rfl (ZQ HT_.out HW_.out (by kernel_rfl)) (fun _ _ _ h => h) (Or.inl ⟨by rfl,?_⟩) hHeld ?_ ?_;rotate_left
                 · rintro w' ⟨s0,s1,s2,s3,s4,s5,s6,s7,s8,s9,s10,s11⟩
                   go_simp;with_reducible rfl
                 rotate_left
                 · simp only [Act.put,V9,VA,VB,i64_w,i32_w]
                   rfl
                 refine take_ (i := 14) (N := some 28) (v := ?_) (a' := ?_) #[U,U,U,U,U,U,U,U,U,U,U,U,U,U,U,Z,U,U,U,U,Z,Z,Z] rfl rfl (ZQ HT_.out HW_.out (by kernel_rfl)) (fun _ _ _ h => h) (Or.inl ⟨by rfl,?_⟩) hHeld ?_ ?_;rotate_left
                 · rintro w' ⟨s0,s1,s2,s3,s4,s5,s6,s7,s8,s9,s10,s11⟩
                   go_simp;with_reducible rfl
                 rotate_left
                 · simp only [Act.put,V9,VA,VB,i64_w,i32_w]
                   rfl
                 refine pure_ (i := 15) (N := some 29) (v := ?_) (a' := ?_) #[U,U,U,U,U,U,U,U,U,U,U,U,U,U,U,U,U,U,U,U,Z,Z,Z] rfl rfl (Zs HT_.out (by kernel_rfl)) (fun _ _ _ h => h) (Or.inl ⟨by rfl,?_⟩) ?_ ?_;rotate_left
                 · intro w'
                   go_simp;with_reducible rfl
                 rotate_left
                 · simp only [Act.put,V9,VA,VB,i64_w,i32_w]
                   rfl
                 refine take_ (i := 20) (N := some 34) (v := ?_) (a' := ?_) #[U,U,U,U,U,U,U,U,U,U,U,U,U,U,U,U,U,U,U,U,U,Z,Z] rfl rfl (ZQ HT_.out HW_.out (by kernel_rfl)) (fun _ _ _ h => h) (Or.inl ⟨by rfl,?_⟩) hHeld ?_ ?_;rotate_left
                 · rintro w' ⟨s0,s1,s2,s3,s4,s5,s6,s7,s8,s9,s10,s11⟩
                   go_simp;with_reducible rfl
                 rotate_left
                 · simp only [Act.put,V9,VA,VB,i64_w,i32_w]
                   rfl
                 refine pure_ (i := 21) (N := some 35) (v := ?_) (a' := ?_) #[U,U,U,U,U,U,U,U,U,U,U,U,U,U,U,U,U,U,U,U,U,U,Z] rfl rfl (Zs HT_.out (by kernel_rfl)) (fun _ _ _ h => h) (Or.inl ⟨by rfl,?_⟩) ?_ ?_;rotate_left
                 · intro w'
                   go_simp;with_reducible rfl
                 rotate_left
                 · simp only [Act.put,V9,VA,VB,i64_w,i32_w]
                   rfl
                 refine pure_ (i := 22) (N := some 36) (v := ?_) (a' := ?_) #[U,U,U,U,U,U,U,U,U,U,U,U,U,U,U,U,U,U,U,U,U,U,U] rfl rfl (Zs HT_.out (by kernel_rfl)) (fun _ _ _ h => h) (Or.inl ⟨by rfl,?_⟩) ?_ ?_;rotate_left
                 · intro w'
                   go_simp;with_reducible rfl
                 rotate_left
                 · simp only [Act.put,V9,VA,VB,i64_w,i32_w]
                   rfl
                 refine done_ (XV HT_.out (by kernel_rfl)) ?_;have p284 : 0 ≤ (x4_1 : Int) := of_decide_eq_true (by first | (with_reducible assumption) | assumption);have q284 : x4_1 < (l0.length : Int) := of_decide_eq_true (by first | (with_reducible assumption) | assumption);obtain ⟨ad284,e284,hx284_0,hx284_1,hx284_2,hx284_3⟩ := Z4 HR0.out x4_1 p284 q284
                 obtain rfl : ad280 = ad284 := (by injection e284)
                 replace hx284_0 := (HB.out.cell (World.block_lt_of_cell? w _ hx284_0)).trans hx284_0;replace hx284_1 := (HB.out.cell (World.block_lt_of_cell? w _ hx284_1)).trans hx284_1;replace hx284_2 := (HB.out.cell (World.block_lt_of_cell? w _ hx284_2)).trans hx284_2;replace hx284_3 := (HB.out.cell (World.block_lt_of_cell? w _ hx284_3)).trans hx284_3;replace p284 := eq_true p284;replace q284 := eq_true q284
                 try go_wp2_with (first | ((with_reducible refine Qq (b := .append) (xs := #[.tmp 51,.tmp 56]) rfl ?_);at_builtin;refine Kd.YY k43 (w0 := w) w.heap.size rfl (.tmp 51) (.tmp 56) 22 43 (.agg #[(.int .i64 0),(.int .i64 0),(.int .i64 0),(.int .i64 0)]) 32 rfl Try.underlying22 info43 rfl (by decide) (by omega) (.slice (some ad278) x3_1.length co15) x3_1 (⟨(Ze l0 x4_1).f0,(Ze l0 x4_1).f1,(Ze l0 x4_1).f2,(Ze l0 x4_1).f3⟩ : S43) [.int .i64 ((Ze l0 x4_1).f0),.int .i64 ((Ze l0 x4_1).f1),.int .i64 ((Ze l0 x4_1).f2),.int .i64 ((Ze l0 x4_1).f3)] (fun _ => True) (fun _ => False) rfl rfl ?aP (fun _ hk => hk.elim) ?aF ?aO ?aB ?aS ?aL ?_;(case aP => exact Xs _ _ _ (⟨(Ze l0 x4_1).f0,(Ze l0 x4_1).f1,(Ze l0 x4_1).f2,(Ze l0 x4_1).f3⟩ : S43));(case aB => exact (by repeat (first | (with_reducible first | exact HB.out | apply Zf | apply Za | apply Zd) | exact HB.out)));(case aF => exact (fun _ _ => trivial));(case aO => exact (by (with_reducible repeat (first | apply Kd.Zj | apply Kd.Zi | apply Kd.Zm));exact HO_3.out));(case aS => exact (Zp (by repeat (first | (with_reducible first | exact HB.out | apply Zf | apply Za | apply Zd) | exact HB.out))));(case aL => have := LMc14.out;omega);intro v286 w17 ho hb hg hat;rw [← Ny285.out] at ho;have n0_ := Zb.mk (hb);have n1_ := Zb.mk (ho);clear HB;clear HO_3;have HB := n0_;have HO287 := n1_;clear n0_ n1_;clear ho hb hg hat))
                 go_roundg k1
                 case measure => have := HK1.out;omega
                 case rel => exact ⟨(y285),(wrap64 (x4_1 + 1)),(by first | rfl | (simp;done) | (simp [*];done)),H',⟨by have := HK1.out;omega⟩,⟨by (with_reducible repeat (first | apply Kd.Zj | apply Kd.Zi | apply Kd.Zm));exact HO287.out⟩,⟨by repeat (first | (with_reducible first | exact HB.out | apply Zf | apply Za | apply Zd) | exact HB.out)⟩⟩
               · rw [if_neg c14] at H
                 exact absurd H (by simp)
           · rw [if_neg c7] at H
             exact absurd H (by simp)
         · rw [if_neg c6] at H
           exact absurd H (by simp)
       · rw [if_neg c5] at H
         exact absurd H (by simp)
     · rw [if_neg c3] at H
       have c3b0 : decide (0 < (x3_1.length : Int)) = false := decide_eq_false c3;have c3b1 : decide (0 < x3_1.length) = false := decide_eq_false (by omega);clear c3
       by_cases c18 : 0 ≤ x4_1
       · rw [if_pos c18] at H
         have c18b0 : decide (0 ≤ x4_1) = true := decide_eq_true c18;clear c18
         by_cases c19 : x3_1.length < 4398046511104
         · rw [if_pos c19] at H
           have LMc19 := Zb.mk c19;clear c19
           obtain ⟨y289,hy289⟩ : ∃ y_ : List (S43),y_ = (x3_1 ++ [(⟨(Ze l0 x4_1).f0,(Ze l0 x4_1).f1,(Ze l0 x4_1).f2,(Ze l0 x4_1).f3⟩ : S43)]) := ⟨_,rfl⟩
           replace H : (Zv.l0 k1 l0 y289 (wrap64 (x4_1 + 1))) = some r := by first | (rw [hy289];with_reducible exact H) | (have H2_ := (Option.bind_some _ _).symm.trans H;rw [hy289];with_reducible exact H2_) | (have H2_ := (Option.bind_some _ _).symm.trans H;with_reducible exact H2_) | with_reducible exact H | (rw [hy289];exact H) | exact H
           have Ny289 := Zb.mk hy289;clear hy289;have H' := Zb.mk H;clear H;obtain ⟨Ao20,co20,eo20⟩ := Kd.ZS HO_3.out;subst eo20
           try go_wp2
           have n0_ := Zb.mk (Kd.Zm HO_3.out);have n1_ := Zb.mk (Zd HB.out);clear HO_3;clear HB;have HO_3 := n0_;have HB := n1_;clear n0_ n1_;refine Qn (n := 23) (S := fun w' => True) (ds := []) #[Z,Z,Z,Z,Z,Z,Z,Z,Z,Z,Z,Z,Z,Z,Z,Z,Z,Z,Z,Z,Z,Z,Z] (by kernel_rfl) rfl rfl trivial (fun hHeld => ?_);refine XC Zv.tab6 Zv.bits6 (fun HT_ HW_ => ?_);generalize wr.drew = w21 at HO_3 HB hHeld ⊢;refine pure_ (i := 0) (N := some 14) (v := ?_) (a' := ?_) #[U,Z,Z,Z,Z,Z,Z,Z,Z,Z,Z,Z,Z,Z,Z,Z,Z,Z,Z,Z,Z,Z,Z] rfl rfl (Zs HT_.out (by kernel_rfl)) (fun _ _ _ h => h) (Or.inl ⟨by rfl,?_⟩) ?_ ?_;rotate_left
           · intro w'
             go_simp;with_reducible rfl
           rotate_left
           · simp only [Act.put,V9,VA,VB,i64_w,i32_w]
             rfl
           refine pure_ (i := 1) (N := some 15) (v := ?_) (a' := ?_) #[U,U,Z,Z,Z,Z,Z,Z,Z,Z,Z,Z,Z,Z,Z,Z,Z,Z,Z,Z,Z,Z,Z] rfl rfl (Zs HT_.out (by kernel_rfl)) (fun _ _ _ h => h) (Or.inl ⟨by rfl,?_⟩) ?_ ?_;rotate_left
           · intro w'
             go_simp;with_reducible rfl
           rotate_left
           · simp only [Act.put,V9,VA,VB,i64_w,i32_w]
             rfl
           refine pure_ (i := 2) (N := some 16) (v := ?_) (a' := ?_) #[U,U,U,Z,Z,Z,Z,Z,Z,Z,Z,Z,Z,Z,Z,Z,Z,Z,Z,Z,Z,Z,Z] rfl rfl (Zs HT_.out (by kernel_rfl)) (fun _ _ _ h => h) (Or.inl ⟨by rfl,?_⟩) ?_ ?_;rotate_left
           · intro w'
             go_simp;with_reducible rfl
           rotate_left
           · simp only [Act.put,V9,VA,VB,i64_w,i32_w]
             rfl
           refine pure_ (i := 3) (N := some 17) (v := undef) (a' := ?_) #[U,U,U,U,Z,Z,Z,Z,Z,Z,Z,Z,Z,Z,Z,Z,Z,Z,Z,Z,Z,Z,Z] rfl rfl (Zs HT_.out (by kernel_rfl)) (fun _ _ _ h => h) (Or.inr ⟨by rfl,rfl⟩) ?_ ?_;rotate_left
           · simp only [Act.put,V9,VA,VB,i64_w,i32_w]
             rfl
           refine pure_ (i := 4) (N := some 18) (v := undef) (a' := ?_) #[U,U,U,U,U,Z,Z,Z,Z,Z,Z,Z,Z,Z,Z,Z,Z,Z,Z,Z,Z,Z,Z] rfl rfl (Zs HT_.out (by kernel_rfl)) (fun _ _ _ h => h) (Or.inr ⟨by rfl,rfl⟩) ?_ ?_;rotate_left
           · simp only [Act.put,V9,VA,VB,i64_w,i32_w]
             rfl
           refine pure_ (i := 5) (N := some 19) (v := undef) (a' := ?_) #[U,U,U,U,U,U,Z,Z,Z,Z,Z,Z,Z,Z,Z,Z,Z,Z,Z,Z,Z,Z,Z] rfl rfl (Zs HT_.out (by kernel_rfl)) (fun _ _ _ h => h) (Or.inr ⟨by rfl,rfl⟩) ?_ ?_;rotate_left
           · simp only [Act.put,V9,VA,VB,i64_w,i32_w]
             rfl
           refine pure_ (i := 6) (N := some 20) (v := undef) (a' := ?_) #[U,U,U,U,U,U,U,Z,Z,Z,Z,Z,Z,Z,Z,Z,Z,Z,Z,Z,Z,Z,Z] rfl rfl (Zs HT_.out (by kernel_rfl)) (fun _ _ _ h => h) (Or.inr ⟨by rfl,rfl⟩) ?_ ?_;rotate_left
           · simp only [Act.put,V9,VA,VB,i64_w,i32_w]
             rfl
           refine pure_ (i := 7) (N := some 21) (v := undef) (a' := ?_) #[U,U,U,U,U,U,U,U,Z,Z,Z,Z,Z,Z,Z,Z,Z,Z,Z,Z,Z,Z,Z] rfl rfl (Zs HT_.out (by kernel_rfl)) (fun _ _ _ h => h) (Or.inr ⟨by rfl,rfl⟩) ?_ ?_;rotate_left
           · simp only [Act.put,V9,VA,VB,i64_w,i32_w]
             rfl
           refine pure_ (i := 8) (N := some 22) (v := undef) (a' := ?_) #[U,U,U,U,U,U,U,U,U,Z,Z,Z,Z,Z,Z,Z,Z,Z,Z,Z,Z,Z,Z] rfl rfl (Zs HT_.out (by kernel_rfl)) (fun _ _ _ h => h) (Or.inr ⟨by rfl,rfl⟩) ?_ ?_;rotate_left
           · simp only [Act.put,V9,VA,VB,i64_w,i32_w]
             rfl
           refine pure_ (i := 9) (N := some 23) (v := undef) (a' := ?_) #[U,U,U,U,U,U,U,U,U,U,Z,Z,Z,Z,Z,Z,Z,Z,Z,Z,Z,Z,Z] rfl rfl (Zs HT_.out (by kernel_rfl)) (fun _ _ _ h => h) (Or.inr ⟨by rfl,rfl⟩) ?_ ?_;rotate_left
           · simp only [Act.put,V9,VA,VB,i64_w,i32_w]
             rfl
           refine pure_ (i := 10) (N := some 24) (v := undef) (a' := ?_) #[U,U,U,U,U,U,U,U,U,U,U,Z,Z,Z,Z,Z,Z,Z,Z,Z,Z,Z,Z] rfl rfl (Zs HT_.out (by kernel_rfl)) (fun _ _ _ h => h) (Or.inr ⟨by rfl,rfl⟩) ?_ ?_;rotate_left
           · simp only [Act.put,V9,VA,VB,i64_w,i32_w]
             rfl
           refine pure_ (i := 11) (N := some 25) (v := undef) (a' := ?_) #[U,U,U,U,U,U,U,U,U,U,U,U,Z,Z,Z,Z,Z,Z,Z,Z,Z,Z,Z] rfl rfl (Zs HT_.out (by kernel_rfl)) (fun _ _ _ h => h) (Or.inr ⟨by rfl,rfl⟩) ?_ ?_;rotate_left
           · simp only [Act.put,V9,VA,VB,i64_w,i32_w]
             rfl
           refine pure_ (i := 12) (N := some 26) (v := undef) (a' := ?_) #[U,U,U,U,U,U,U,U,U,U,U,U,U,Z,Z,Z,Z,Z,Z,Z,Z,Z,Z] rfl rfl (Zs HT_.out (by kernel_rfl)) (fun _ _ _ h => h) (Or.inr ⟨by rfl,rfl⟩) ?_ ?_;rotate_left
           · simp only [Act.put,V9,VA,VB,i64_w,i32_w]
             rfl
           refine pure_ (i := 13) (N := some 27) (v := undef) (a' := ?_) #[U,U,U,U,U,U,U,U,U,U,U,U,U,U,Z,Z,Z,Z,Z,Z,Z,Z,Z] rfl rfl (Zs HT_.out (by kernel_rfl)) (fun _ _ _ h => h) (Or.inr ⟨by rfl,rfl⟩) ?_ ?_;rotate_left
           · simp only [Act.put,V9,VA,VB,i64_w,i32_w]
             rfl
           refine pure_ (i := 14) (N := some 28) (v := undef) (a' := ?_) #[U,U,U,U,U,U,U,U,U,U,U,U,U,U,U,Z,Z,Z,Z,Z,Z,Z,Z] rfl rfl (Zs HT_.out (by kernel_rfl)) (fun _ _ _ h => h) (Or.inr ⟨by rfl,rfl⟩) ?_ ?_;rotate_left
           · simp only [Act.put,V9,VA,VB,i64_w,i32_w]
             rfl
           refine pure_ (i := 15) (N := some 29) (v := undef) (a' := ?_) #[U,U,U,U,U,U,U,U,U,U,U,U,U,U,U,U,Z,Z,Z,Z,Z,Z,Z] rfl rfl (Zs HT_.out (by kernel_rfl)) (fun _ _ _ h => h) (Or.inr ⟨by rfl,rfl⟩) ?_ ?_;rotate_left
           · simp only [Act.put,V9,VA,VB,i64_w,i32_w]
             rfl
           refine pure_ (i := 16) (N := some 30) (v := undef) (a' := ?_) #[U,U,U,U,U,U,U,U,U,U,U,U,U,U,U,U,U,Z,Z,Z,Z,Z,Z] rfl rfl (Zs HT_.out (by kernel_rfl)) (fun _ _ _ h => h) (Or.inr ⟨by rfl,rfl⟩) ?_ ?_;rotate_left
           · simp only [Act.put,V9,VA,VB,i64_w,i32_w]
             rfl
           refine pure_ (i := 17) (N := some 31) (v := undef) (a' := ?_) #[U,U,U,U,U,U,U,U,U,U,U,U,U,U,U,U,U,U,Z,Z,Z,Z,Z] rfl rfl (Zs HT_.out (by kernel_rfl)) (fun _ _ _ h => h) (Or.inr ⟨by rfl,rfl⟩) ?_ ?_;rotate_left
           · simp only [Act.put,V9,VA,VB,i64_w,i32_w]
             rfl
           refine pure_ (i := 18) (N := some 32) (v := undef) (a' := ?_) #[U,U,U,U,U,U,U,U,U,U,U,U,U,U,U,U,U,U,U,Z,Z,Z,Z] rfl rfl (Zs HT_.out (by kernel_rfl)) (fun _ _ _ h => h) (Or.inr ⟨by rfl,rfl⟩) ?_ ?_;rotate_left
           · simp only [Act.put,V9,VA,VB,i64_w,i32_w]
             rfl
           refine pure_ (i := 19) (N := some 33) (v := undef) (a' := ?_) #[U,U,U,U,U,U,U,U,U,U,U,U,U,U,U,U,U,U,U,U,Z,Z,Z] rfl rfl (Zs HT_.out (by kernel_rfl)) (fun _ _ _ h => h) (Or.inr ⟨by rfl,rfl⟩) ?_ ?_;rotate_left
           · simp only [Act.put,V9,VA,VB,i64_w,i32_w]
             rfl
           refine pure_ (i := 20) (N := some 34) (v := undef) (a' := ?_) #[U,U,U,U,U,U,U,U,U,U,U,U,U,U,U,U,U,U,U,U,U,Z,Z] rfl rfl (Zs HT_.out (by kernel_rfl)) (fun _ _ _ h => h) (Or.inr ⟨by rfl,rfl⟩) ?_ ?_;rotate_left
           · simp only [Act.put,V9,VA,VB,i64_w,i32_w]
             rfl
           refine pure_ (i := 21) (N := some 35) (v := undef) (a' := ?_) #[U,U,U,U,U,U,U,U,U,U,U,U,U,U,U,U,U,U,U,U,U,U,Z] rfl rfl (Zs HT_.out (by kernel_rfl)) (fun _ _ _ h => h) (Or.inr ⟨by rfl,rfl⟩) ?_ ?_;rotate_left
           · simp only [Act.put,V9,VA,VB,i64_w,i32_w]
             rfl
           refine pure_ (i := 22) (N := some 36) (v := ?_) (a' := ?_) #[U,U,U,U,U,U,U,U,U,U,U,U,U,U,U,U,U,U,U,U,U,U,U] rfl rfl (Zs HT_.out (by kernel_rfl)) (fun _ _ _ h => h) (Or.inl ⟨by rfl,?_⟩) ?_ ?_;rotate_left
           · intro w'
             go_simp;with_reducible rfl
           rotate_left
           · simp only [Act.put,V9,VA,VB,i64_w,i32_w]
             rfl
           refine done_ (XV HT_.out (by kernel_rfl)) ?_;have p288 : 0 ≤ (x4_1 : Int) := of_decide_eq_true (by first | (with_reducible assumption) | assumption);have q288 : x4_1 < (l0.length : Int) := of_decide_eq_true (by first | (with_reducible assumption) | assumption);obtain ⟨ad288,e288,hx288_0,hx288_1,hx288_2,hx288_3⟩ := Z4 HR0.out x4_1 p288 q288
           cases e288
           replace hx288_0 := (HB.out.cell (World.block_lt_of_cell? w _ hx288_0)).trans hx288_0;replace hx288_1 := (HB.out.cell (World.block_lt_of_cell? w _ hx288_1)).trans hx288_1;replace hx288_2 := (HB.out.cell (World.block_lt_of_cell? w _ hx288_2)).trans hx288_2;replace hx288_3 := (HB.out.cell (World.block_lt_of_cell? w _ hx288_3)).trans hx288_3;replace p288 := eq_true p288;replace q288 := eq_true q288
           try go_wp2_with (first | ((with_reducible refine Qq (b := .append) (xs := #[.tmp 51,.tmp 56]) rfl ?_);at_builtin;refine Kd.YY k43 (w0 := w) w.heap.size rfl (.tmp 51) (.tmp 56) 22 43 (.agg #[(.int .i64 0),(.int .i64 0),(.int .i64 0),(.int .i64 0)]) 32 rfl Try.underlying22 info43 rfl (by decide) (by omega) (.slice Ao20 x3_1.length co20) x3_1 (⟨(Ze l0 x4_1).f0,(Ze l0 x4_1).f1,(Ze l0 x4_1).f2,(Ze l0 x4_1).f3⟩ : S43) [.int .i64 ((Ze l0 x4_1).f0),.int .i64 ((Ze l0 x4_1).f1),.int .i64 ((Ze l0 x4_1).f2),.int .i64 ((Ze l0 x4_1).f3)] (fun _ => True) (fun _ => False) rfl rfl ?aP (fun _ hk => hk.elim) ?aF ?aO ?aB ?aS ?aL ?_;(case aP => exact Xs _ _ _ (⟨(Ze l0 x4_1).f0,(Ze l0 x4_1).f1,(Ze l0 x4_1).f2,(Ze l0 x4_1).f3⟩ : S43));(case aB => exact (by repeat (first | (with_reducible first | exact HB.out | apply Zf | apply Za | apply Zd) | exact HB.out)));(case aF => exact (fun _ _ => trivial));(case aO => exact (by (with_reducible repeat (first | apply Kd.Zj | apply Kd.Zi | apply Kd.Zm));exact HO_3.out));(case aS => exact (Zp (by repeat (first | (with_reducible first | exact HB.out | apply Zf | apply Za | apply Zd) | exact HB.out))));(case aL => have := LMc19.out;omega);intro v290 w22 ho hb hg hat;rw [← Ny289.out] at ho;have n0_ := Zb.mk (hb);have n1_ := Zb.mk (ho);clear HB;clear HO_3;have HB := n0_;have HO291 := n1_;clear n0_ n1_;clear ho hb hg hat))
           go_roundg k1
           case measure => have := HK1.out;omega
           case rel => exact ⟨(y289),(wrap64 (x4_1 + 1)),(by first | rfl | (simp;done) | (simp [*];done)),H',⟨by have := HK1.out;omega⟩,⟨by (with_reducible repeat (first | apply Kd.Zj | apply Kd.Zi | apply Kd.Zm));exact HO291.out⟩,⟨by repeat (first | (with_reducible first | exact HB.out | apply Zf | apply Za | apply Zd) | exact HB.out)⟩⟩
         · rw [if_neg c19] at H
           exact absurd H (by simp)
       · rw [if_neg c18] at H
         exact absurd H (by simp)
   · rw [if_neg c2] at H
     have c2b0 : decide (x4_1 < (l0.length : Int)) = false := decide_eq_false c2;clear c2;obtain rfl := Option.some.inj H
     go_wp2
     go_ret;exact ⟨_,by first | rfl | (simp [Zu,Zt] <;> rfl) | (simp [*,Zu,Zt] <;> rfl),by (with_reducible repeat (first | apply Kd.Zj | apply Kd.Zi | apply Kd.Zm));exact HO_3.out,by repeat (first | (with_reducible first | exact HB.out | apply Zf | apply Za | apply Zd) | exact HB.out)⟩
end Go.Proofs.Ythbajahklnpkcaa.PA

namespace Go.Proofs.Ythbajahklnpkcaa.PA
open Go.RowKit Go.Proofs.YthbajahklnpkcaaW.PrintWords Go.Proofs.YthbajahklnpkcaaW.PrintLast Go.Proofs.YthbajahklnpkcaaW.PrintMore
attribute [local go_sem] ZK ZL ZR ZU ZD ZC ZM ZN
set_option linter.unusedVariables false
set_option linter.unusedSimpArgs false
mutual
def Zy.j0 : Nat → List (S43) → List (S43) → Bool → Option (Bool)
 | 0,_,_,_ => none
 | k + 1,x0,x1,x31 => if x31 = true then (some false) else (Zy.l0 k x0 x1 0)
def Zy.l0 : Nat → List (S43) → List (S43) → Int → Option (Bool)
 | 0,_,_,_ => none
 | k + 1,x0,x1,x5 => if x5 < (x0.length : Int) then (if 0 ≤ x5 then (if x5 < (x1.length : Int) then (if ((Ze x0 x5).f0) = ((Ze x1 x5).f0) then (if ((Ze x0 x5).f2) = ((Ze x1 x5).f2) then (Zy.l0 k x0 x1 (wrap64 (x5 + 1))) else (some false)) else (some false)) else (none)) else (none)) else (some true)
end
def Zy.f (k : Nat) (l0 : List (S43)) (l1 : List (S43)) : Option (Bool) := if (l0.length : Int) = (l1.length : Int) then (if (l0.length : Int) = 0 then (Zy.j0 k l0 l1 true) else (if 0 < (l0.length : Int) then (if 0 < (l1.length : Int) then (Zy.j0 k l0 l1 ((wrap64 (((Ze l0 0).f1) + ((Ze l0 0).f3))) != ((Ze l1 0).f1))) else (none)) else (none))) else (Zy.j0 k l0 l1 true)
set_option maxHeartbeats 8000000 in
set_option maxRecDepth 100000 in
theorem Zy.calls (k : Nat) (A0 : Option Addr) (c0 : Nat) (l0 : List (S43)) (A1 : Option Addr) (c1 : Nat) (l1 : List (S43)) (r : Bool) (w : World) (hr0 : Kd.C k43 w A0 l0.length l0) (hc0 : l0.length ≤ c0) (hr1 : Kd.C k43 w A1 l1.length l1) (hc1 : l1.length ≤ c1) (h : Zy.f k l0 l1 = some r) :
 Calls Try.prog 114 #[.slice A0 l0.length c0,.slice A1 l1.length c1] w fun e w' => e = .returned (.bool r) ∧ Drawn0 w w' := by
 have HR0 := Zb.mk hr0;have HC0 := Zb.mk hc0;clear hr0 hc0;have HR1 := Zb.mk hr1;have HC1 := Zb.mk hc1;clear hr1 hc1;have H : (if (l0.length : Int) = (l1.length : Int) then (if (l0.length : Int) = 0 then (Zy.j0 k l0 l1 true) else (if 0 < (l0.length : Int) then (if 0 < (l1.length : Int) then (Zy.j0 k l0 l1 ((wrap64 (((Ze l0 0).f1) + ((Ze l0 0).f3))) != ((Ze l1 0).f1))) else (none)) else (none))) else (Zy.j0 k l0 l1 true)) = some r := h;clear h;have HC3 := Zb.mk H;clear H
 go_enter Try.func114,Try.ntmps114
 go_upto_region 1 with (fail)
 repeat (go_quiet (fail);go_upto_region 1 with (fail))
 go_cut [31] (fun v31 wc => ∃ (kq : Nat) (x31_2 : Bool),v31 = .bool x31_2 ∧ Zb (Zy.j0 kq l0 l1 x31_2 = some r) ∧ Zb (kq ≤ k) ∧ Drawn0 w wc)
 case first =>
  have H := HC3.out;clear HC3
  by_cases c4 : (l0.length : Int) = (l1.length : Int)
  · rw [if_pos c4] at H
    have c4b0 : ((l0.length : Int) == (l1.length : Int)) = true := beq_iff_eq.mpr c4;have c4b1 : ((l0.length : Int) != (l1.length : Int)) = false := bne_eq_false_iff_eq.mpr c4
    have c4b2 : (l0.length == l1.length) = true := by first | simpa using c4 | (simp at c4 ⊢;omega)
    clear c4
    (first | rw [c4b0] | (simp only [i64_w,i32_w];rw [c4b0]) | skip)
    by_cases c5 : (l0.length : Int) = 0
    · rw [if_pos c5] at H
      have c5b0 : ((l0.length : Int) == 0) = true := beq_iff_eq.mpr c5;have c5b1 : ((l0.length : Int) != 0) = false := bne_eq_false_iff_eq.mpr c5;clear c5;have H' := Zb.mk H;clear H
      go_wp2
      repeat (go_quiet (fail);try go_wp2)
      go_meet
      case rel => exact ⟨_,(true),(by first | rfl | (simp;done) | (simp [*];done)),H',⟨by first | omega | exact Nat.le_refl _⟩,by repeat (first | exact Drawn0.refl _ | apply Drawn0.step)⟩
    · rw [if_neg c5] at H
      have c5b0 : ((l0.length : Int) == 0) = false := beq_eq_false_iff_ne.mpr c5;have c5b1 : ((l0.length : Int) != 0) = true := bne_iff_ne.mpr c5
      have c5b2 : ¬ (l0 = []) := fun h_ => c5 (by rw [h_];rfl)
      by_cases c6 : 0 < (l0.length : Int)
      · rw [if_pos c6] at H
        have c6b0 : decide (0 < (l0.length : Int)) = true := decide_eq_true c6;have c6b1 : decide (0 < l0.length) = true := decide_eq_true (by omega);clear c6
        by_cases c7 : 0 < (l1.length : Int)
        · rw [if_pos c7] at H
          have c7b0 : decide (0 < (l1.length : Int)) = true := decide_eq_true c7;have c7b1 : decide (0 < l1.length) = true := decide_eq_true (by omega);clear c7;have H' := Zb.mk H;clear H
          have p292 : 0 ≤ (0 : Int) := (by omega)
          have q292 : 0 < (l0.length : Int) := of_decide_eq_true (by first | (with_reducible assumption) | assumption);obtain ⟨ad292,e292,hx292_0,hx292_1,hx292_2,hx292_3⟩ := Z4 HR0.out 0 p292 q292
          cases e292
          have qi292 : (0 < l0.length) = True := eq_true (by omega)
          (try rw [show ((0 : Int)).toNat = 0 from rfl] at hx292_0)
          (try rw [show 0 * 4 = 0 from rfl] at hx292_0)
          (try rw [Addr.add_zero'] at hx292_0)
          (try rw [show ((0 : Int)).toNat = 0 from rfl] at hx292_1)
          (try rw [show 0 * 4 = 0 from rfl] at hx292_1)
          (try rw [Addr.add_zero'] at hx292_1)
          (try rw [show ((0 : Int)).toNat = 0 from rfl] at hx292_2)
          (try rw [show 0 * 4 = 0 from rfl] at hx292_2)
          (try rw [Addr.add_zero'] at hx292_2)
          (try rw [show ((0 : Int)).toNat = 0 from rfl] at hx292_3)
          (try rw [show 0 * 4 = 0 from rfl] at hx292_3)
          (try rw [Addr.add_zero'] at hx292_3)
          replace p292 := eq_true p292;replace q292 := eq_true q292
          have p293 : 0 ≤ (0 : Int) := (by omega)
          have q293 : 0 < (l0.length : Int) := of_decide_eq_true (by first | (with_reducible assumption) | assumption);obtain ⟨ad293,e293,hx293_0,hx293_1,hx293_2,hx293_3⟩ := Z4 HR0.out 0 p293 q293
          obtain rfl : ad292 = ad293 := (by injection e293)
          have qi293 : (0 < l0.length) = True := eq_true (by omega)
          (try rw [show ((0 : Int)).toNat = 0 from rfl] at hx293_0)
          (try rw [show 0 * 4 = 0 from rfl] at hx293_0)
          (try rw [Addr.add_zero'] at hx293_0)
          (try rw [show ((0 : Int)).toNat = 0 from rfl] at hx293_1)
          (try rw [show 0 * 4 = 0 from rfl] at hx293_1)
          (try rw [Addr.add_zero'] at hx293_1)
          (try rw [show ((0 : Int)).toNat = 0 from rfl] at hx293_2)
          (try rw [show 0 * 4 = 0 from rfl] at hx293_2)
          (try rw [Addr.add_zero'] at hx293_2)
          (try rw [show ((0 : Int)).toNat = 0 from rfl] at hx293_3)
          (try rw [show 0 * 4 = 0 from rfl] at hx293_3)
          (try rw [Addr.add_zero'] at hx293_3)
          replace p293 := eq_true p293;replace q293 := eq_true q293
          have p294 : 0 ≤ (0 : Int) := (by omega)
          have q294 : 0 < (l1.length : Int) := of_decide_eq_true (by first | (with_reducible assumption) | assumption);obtain ⟨ad294,e294,hx294_0,hx294_1,hx294_2,hx294_3⟩ := Z4 HR1.out 0 p294 q294
          cases e294
          have qi294 : (0 < l1.length) = True := eq_true (by omega)
          (try rw [show ((0 : Int)).toNat = 0 from rfl] at hx294_0)
          (try rw [show 0 * 4 = 0 from rfl] at hx294_0)
          (try rw [Addr.add_zero'] at hx294_0)
          (try rw [show ((0 : Int)).toNat = 0 from rfl] at hx294_1)
          (try rw [show 0 * 4 = 0 from rfl] at hx294_1)
          (try rw [Addr.add_zero'] at hx294_1)
          (try rw [show ((0 : Int)).toNat = 0 from rfl] at hx294_2)
          (try rw [show 0 * 4 = 0 from rfl] at hx294_2)
          (try rw [Addr.add_zero'] at hx294_2)
          (try rw [show ((0 : Int)).toNat = 0 from rfl] at hx294_3)
          (try rw [show 0 * 4 = 0 from rfl] at hx294_3)
          (try rw [Addr.add_zero'] at hx294_3)
          replace p294 := eq_true p294;replace q294 := eq_true q294
          go_wp2
          repeat (go_quiet (fail);try go_wp2)
          go_meet
          case rel => exact ⟨_,(((wrap64 (((Ze l0 0).f1) + ((Ze l0 0).f3))) != ((Ze l1 0).f1))),(by first | rfl | (simp;done) | (simp [*];done)),H',⟨by first | omega | exact Nat.le_refl _⟩,by repeat (first | exact Drawn0.refl _ | apply Drawn0.step)⟩
        · rw [if_neg c7] at H
          exact absurd H (by simp)
      · rw [if_neg c6] at H
        exact absurd H (by simp)
  · rw [if_neg c4] at H
    have c4b0 : ((l0.length : Int) == (l1.length : Int)) = false := beq_eq_false_iff_ne.mpr c4;have c4b1 : ((l0.length : Int) != (l1.length : Int)) = true := bne_iff_ne.mpr c4
    have c4b2 : (l0.length == l1.length) = false := by first | simpa using c4 | (simp at c4 ⊢;omega)
    (first | rw [c4b0] | (simp only [i64_w,i32_w];rw [c4b0]) | skip)
    have H' := Zb.mk H;clear H
    go_wp2
    repeat (go_quiet (fail);try go_wp2)
    go_meet
    case rel => exact ⟨_,(true),(by first | rfl | (simp;done) | (simp [*];done)),H',⟨by first | omega | exact Nat.le_refl _⟩,by repeat (first | exact Drawn0.refl _ | apply Drawn0.step)⟩
 case rest =>
  clear HC3
  (try clear c1); (try clear p2); (try clear q2); (try clear hx2); (try clear qi2); (try clear c4); (try clear c4b0); (try clear c4b1); (try clear c4b2); (try clear c5); (try clear c5b0); (try clear c5b1); (try clear c5b2); (try clear c6); (try clear c6b0); (try clear c6b1); (try clear p6); (try clear c7); (try clear c7b0); (try clear c7b1); (try clear hx292_0); (try clear hx292_1); (try clear hx292_2); (try clear hx292_3); (try clear hx293_0); (try clear hx293_1); (try clear hx293_2); (try clear hx293_3); (try clear hx294_0); (try clear hx294_1); (try clear hx294_2); (try clear hx294_3); (try clear p292); (try clear p293); (try clear p294); (try clear q292); (try clear q293); (try clear q294)
  obtain ⟨kq,x31_2,rfl,HA,HJ2,⟨mc2,rfl⟩⟩ := hcut
  cases kq with
  | zero => exact absurd HA.out (by simp [Zy.j0])
  | succ kj2 =>
   have H := HA.out;clear HA;simp only [Zy.j0] at H
   by_cases c8 : x31_2 = true
   · subst c8
     have H1 : (some false) = some r := by rw [if_pos rfl] at H;exact H
     clear H;have H := H1;clear H1;obtain rfl := Option.some.inj H
     go_wp2
     repeat (go_quiet (fail);try go_wp2)
     go_ret;exact ⟨by first | rfl | (simp;done) | (simp [*];done),by repeat (first | exact Drawn0.refl _ | apply Drawn0.step)⟩
   · replace c8 := Bool.eq_false_iff.mpr c8
     subst c8
     have H1 : (Zy.l0 kj2 l0 l1 0) = some r := by rw [if_neg (show ¬ (false = true) by decide)] at H;exact H
     clear H;have H := H1;clear H1;have H' := Zb.mk H;clear H
     go_wp2
     repeat (go_quiet (fail);try go_wp2)
     go_loopg [5] kj2 (fun kq v5 w' => ∃ (x5_2 : Int),v5 = .int .i64 x5_2 ∧ Zb (Zy.l0 kq l0 l1 x5_2 = some r) ∧ Zb (kq ≤ kj2) ∧ Drawn0 w w')
     case atStart => exact ⟨(0),(by first | rfl | (simp;done) | (simp [*];done)),H',⟨Nat.le_refl _⟩,by repeat (first | exact Drawn0.refl _ | apply Drawn0.step)⟩
     case round =>
      clear H'
      (try clear c1); (try clear c2); (try clear p2); (try clear q2); (try clear hx2); (try clear qi2); (try clear c4); (try clear c4b0); (try clear c4b1); (try clear c4b2); (try clear c5); (try clear c5b0); (try clear c5b1); (try clear c5b2); (try clear c6); (try clear c6b0); (try clear c6b1); (try clear p6); (try clear c7); (try clear c7b0); (try clear c7b1); (try clear c8); (try clear hx292_0); (try clear hx292_1); (try clear hx292_2); (try clear hx292_3); (try clear hx293_0); (try clear hx293_1); (try clear hx293_2); (try clear hx293_3); (try clear hx294_0); (try clear hx294_1); (try clear hx294_2); (try clear hx294_3); (try clear p2); (try clear p292); (try clear p293); (try clear p294); (try clear p6); (try clear q2); (try clear q292); (try clear q293); (try clear q294)
      obtain ⟨x5_2,rfl,HA,HK2,⟨m2,rfl⟩⟩ := hrel
      cases gk with
      | zero => exact absurd HA.out (by simp [Zy.l0])
      | succ k2 =>
       have H := HA.out;clear HA;simp only [Zy.l0] at H
       by_cases c9 : x5_2 < (l0.length : Int)
       · rw [if_pos c9] at H
         have c9b0 : decide (x5_2 < (l0.length : Int)) = true := decide_eq_true c9;clear c9
         by_cases c10 : 0 ≤ x5_2
         · rw [if_pos c10] at H
           have c10b0 : decide (0 ≤ x5_2) = true := decide_eq_true c10;clear c10
           by_cases c11 : x5_2 < (l1.length : Int)
           · rw [if_pos c11] at H
             have c11b0 : decide (x5_2 < (l1.length : Int)) = true := decide_eq_true c11;clear c11
             by_cases c12 : ((Ze l0 x5_2).f0) = ((Ze l1 x5_2).f0)
             · rw [if_pos c12] at H
               have c12b0 : (((Ze l0 x5_2).f0) == ((Ze l1 x5_2).f0)) = true := beq_iff_eq.mpr c12;have c12b1 : (((Ze l0 x5_2).f0) != ((Ze l1 x5_2).f0)) = false := bne_eq_false_iff_eq.mpr c12;clear c12
               by_cases c13 : ((Ze l0 x5_2).f2) = ((Ze l1 x5_2).f2)
               · rw [if_pos c13] at H
                 have c13b0 : (((Ze l0 x5_2).f2) == ((Ze l1 x5_2).f2)) = true := beq_iff_eq.mpr c13;have c13b1 : (((Ze l0 x5_2).f2) != ((Ze l1 x5_2).f2)) = false := bne_eq_false_iff_eq.mpr c13;clear c13;have H' := Zb.mk H;clear H;have p295 : 0 ≤ (x5_2 : Int) := of_decide_eq_true (by first | (with_reducible assumption) | assumption);have q295 : x5_2 < (l0.length : Int) := of_decide_eq_true (by first | (with_reducible assumption) | assumption);obtain ⟨ad295,e295,hx295_0,hx295_1,hx295_2,hx295_3⟩ := Z4 HR0.out x5_2 p295 q295
                 cases e295
                 replace p295 := eq_true p295;replace q295 := eq_true q295;have p296 : 0 ≤ (x5_2 : Int) := of_decide_eq_true (by first | (with_reducible assumption) | assumption);have q296 : x5_2 < (l1.length : Int) := of_decide_eq_true (by first | (with_reducible assumption) | assumption);obtain ⟨ad296,e296,hx296_0,hx296_1,hx296_2,hx296_3⟩ := Z4 HR1.out x5_2 p296 q296
                 cases e296
                 replace p296 := eq_true p296;replace q296 := eq_true q296;have p297 : 0 ≤ (x5_2 : Int) := of_decide_eq_true (by first | (with_reducible assumption) | assumption);have q297 : x5_2 < (l0.length : Int) := of_decide_eq_true (by first | (with_reducible assumption) | assumption);obtain ⟨ad297,e297,hx297_0,hx297_1,hx297_2,hx297_3⟩ := Z4 HR0.out x5_2 p297 q297
                 obtain rfl : ad295 = ad297 := (by injection e297)
                 replace p297 := eq_true p297;replace q297 := eq_true q297;have p298 : 0 ≤ (x5_2 : Int) := of_decide_eq_true (by first | (with_reducible assumption) | assumption);have q298 : x5_2 < (l1.length : Int) := of_decide_eq_true (by first | (with_reducible assumption) | assumption);obtain ⟨ad298,e298,hx298_0,hx298_1,hx298_2,hx298_3⟩ := Z4 HR1.out x5_2 p298 q298
                 obtain rfl : ad296 = ad298 := (by injection e298)
                 replace p298 := eq_true p298;replace q298 := eq_true q298
                 go_wp2
                 repeat (go_quiet (fail);try go_wp2)
                 go_roundg k2
                 case measure => have := HJ2.out;have := HK2.out;omega
                 case rel => exact ⟨(wrap64 (x5_2 + 1)),(by first | rfl | (simp;done) | (simp [*];done)),H',⟨by have := HJ2.out;have := HK2.out;omega⟩,by repeat (first | exact Drawn0.refl _ | apply Drawn0.step)⟩
               · rw [if_neg c13] at H
                 have c13b0 : (((Ze l0 x5_2).f2) == ((Ze l1 x5_2).f2)) = false := beq_eq_false_iff_ne.mpr c13;have c13b1 : (((Ze l0 x5_2).f2) != ((Ze l1 x5_2).f2)) = true := bne_iff_ne.mpr c13;obtain rfl := Option.some.inj H;have p295 : 0 ≤ (x5_2 : Int) := of_decide_eq_true (by first | (with_reducible assumption) | assumption);have q295 : x5_2 < (l0.length : Int) := of_decide_eq_true (by first | (with_reducible assumption) | assumption);obtain ⟨ad295,e295,hx295_0,hx295_1,hx295_2,hx295_3⟩ := Z4 HR0.out x5_2 p295 q295
                 cases e295
                 replace p295 := eq_true p295;replace q295 := eq_true q295;have p296 : 0 ≤ (x5_2 : Int) := of_decide_eq_true (by first | (with_reducible assumption) | assumption);have q296 : x5_2 < (l1.length : Int) := of_decide_eq_true (by first | (with_reducible assumption) | assumption);obtain ⟨ad296,e296,hx296_0,hx296_1,hx296_2,hx296_3⟩ := Z4 HR1.out x5_2 p296 q296
                 cases e296
                 replace p296 := eq_true p296;replace q296 := eq_true q296;have p297 : 0 ≤ (x5_2 : Int) := of_decide_eq_true (by first | (with_reducible assumption) | assumption);have q297 : x5_2 < (l0.length : Int) := of_decide_eq_true (by first | (with_reducible assumption) | assumption);obtain ⟨ad297,e297,hx297_0,hx297_1,hx297_2,hx297_3⟩ := Z4 HR0.out x5_2 p297 q297
                 obtain rfl : ad295 = ad297 := (by injection e297)
                 replace p297 := eq_true p297;replace q297 := eq_true q297;have p298 : 0 ≤ (x5_2 : Int) := of_decide_eq_true (by first | (with_reducible assumption) | assumption);have q298 : x5_2 < (l1.length : Int) := of_decide_eq_true (by first | (with_reducible assumption) | assumption);obtain ⟨ad298,e298,hx298_0,hx298_1,hx298_2,hx298_3⟩ := Z4 HR1.out x5_2 p298 q298
                 obtain rfl : ad296 = ad298 := (by injection e298)
                 replace p298 := eq_true p298;replace q298 := eq_true q298
                 go_wp2
                 repeat (go_quiet (fail);try go_wp2)
                 go_ret;exact ⟨by first | rfl | (simp;done) | (simp [*];done),by repeat (first | exact Drawn0.refl _ | apply Drawn0.step)⟩
             · rw [if_neg c12] at H
               have c12b0 : (((Ze l0 x5_2).f0) == ((Ze l1 x5_2).f0)) = false := beq_eq_false_iff_ne.mpr c12;have c12b1 : (((Ze l0 x5_2).f0) != ((Ze l1 x5_2).f0)) = true := bne_iff_ne.mpr c12;obtain rfl := Option.some.inj H;have p295 : 0 ≤ (x5_2 : Int) := of_decide_eq_true (by first | (with_reducible assumption) | assumption);have q295 : x5_2 < (l0.length : Int) := of_decide_eq_true (by first | (with_reducible assumption) | assumption);obtain ⟨ad295,e295,hx295_0,hx295_1,hx295_2,hx295_3⟩ := Z4 HR0.out x5_2 p295 q295
               cases e295
               replace p295 := eq_true p295;replace q295 := eq_true q295;have p296 : 0 ≤ (x5_2 : Int) := of_decide_eq_true (by first | (with_reducible assumption) | assumption);have q296 : x5_2 < (l1.length : Int) := of_decide_eq_true (by first | (with_reducible assumption) | assumption);obtain ⟨ad296,e296,hx296_0,hx296_1,hx296_2,hx296_3⟩ := Z4 HR1.out x5_2 p296 q296
               cases e296
               replace p296 := eq_true p296;replace q296 := eq_true q296
               go_wp2
               repeat (go_quiet (fail);try go_wp2)
               go_ret;exact ⟨by first | rfl | (simp;done) | (simp [*];done),by repeat (first | exact Drawn0.refl _ | apply Drawn0.step)⟩
           · rw [if_neg c11] at H
             exact absurd H (by simp)
         · rw [if_neg c10] at H
           exact absurd H (by simp)
       · rw [if_neg c9] at H
         have c9b0 : decide (x5_2 < (l0.length : Int)) = false := decide_eq_false c9;clear c9;obtain rfl := Option.some.inj H
         go_wp2
         repeat (go_quiet (fail);try go_wp2)
         go_ret;exact ⟨by first | rfl | (simp;done) | (simp [*];done),by repeat (first | exact Drawn0.refl _ | apply Drawn0.step)⟩
end Go.Proofs.Ythbajahklnpkcaa.PA

namespace Go.Proofs.Ythbajahklnpkcaa.PA
open Go.RowKit Go.Proofs.YthbajahklnpkcaaW.PrintWords Go.Proofs.YthbajahklnpkcaaW.PrintLast Go.Proofs.YthbajahklnpkcaaW.PrintMore
set_option linter.unusedVariables false
set_option linter.unusedSimpArgs false
theorem Jj {α : Type} (p : α → Bool) (l : List α) (k : Nat) (x : α) (hx : l[k]? = some x) : (l.drop k).any p = (p x || (l.drop (k + 1)).any p) := by
 obtain ⟨hlt,rfl⟩ := List.getElem?_eq_some_iff.1 hx;rw [List.drop_eq_getElem_cons hlt,List.any_cons]
theorem rhas_l0 (l : List S43) (x y : Int) (hl : l.length ≤ 9223372036854775807) : ∀ (n kk : Nat),l.length - kk = n → kk ≤ l.length → Ev (fun k => Z0.l0 k l x y kk) ((l.drop kk).any (inR x y)) := by
 intro n
 induction n with
 | zero =>
  intro kk hn hk;rw [List.drop_eq_nil_of_le (by omega)];refine Ev.pure (fun k => ?_);simp only [Z0.l0];rw [if_neg (by omega)];rfl
 | succ n ih =>
  intro kk hn hk
  have hlt : kk < l.length := by omega
  have hx := Xr l kk hlt;have hw : wrap64 ((kk : Int) + 1) = ((kk + 1 : Nat) : Int) := Xi (by omega)
  have i0 : (0 : Int) ≤ (kk : Int) := by omega
  have i1 : (kk : Int) < (l.length : Int) := by omega
  rw [Jj _ _ _ _ hx];have h := ih (kk + 1) (by omega) (by omega);generalize hr : Ze l (kk : Int) = r at hx
  have miss : inR x y r = false → (∀ k,Z0.l0 (k + 1) l x y kk = Z0.l0 k l x y ((kk + 1 : Nat) : Int)) → Ev (fun k => Z0.l0 k l x y kk) (inR x y r || (l.drop (kk + 1)).any (inR x y)) := by
   intro hq e;rw [hq,Bool.false_or];exact Ev.step e h
  by_cases h1 : x ≥ r.f0
  · by_cases h2 : x < wrap64 (r.f0 + r.f2)
    · by_cases h3 : y ≥ r.f1
      · by_cases h4 : y < wrap64 (r.f1 + r.f3)
        · have hq : inR x y r = true := by simp [inR,h1,h2,h3,h4]
          rw [hq,Bool.true_or];refine Ev.pure (fun k => ?_);simp only [Z0.l0,hr];rw [if_pos i1,if_pos i0,if_pos h1,if_pos h2,if_pos h3,if_pos h4]
        · exact miss (by simp [inR];omega) (fun k => by simp only [Z0.l0,hr];rw [if_pos i1,if_pos i0,if_pos h1,if_pos h2,if_pos h3,if_neg h4,hw])
      · exact miss (by simp [inR];omega) (fun k => by simp only [Z0.l0,hr];rw [if_pos i1,if_pos i0,if_pos h1,if_pos h2,if_neg h3,hw])
    · exact miss (by simp [inR];omega) (fun k => by simp only [Z0.l0,hr];rw [if_pos i1,if_pos i0,if_pos h1,if_neg h2,hw])
  · exact miss (by simp [inR];omega) (fun k => by simp only [Z0.l0,hr];rw [if_pos i1,if_pos i0,if_neg h1,hw])
theorem rhas (l : List S43) (x y : Int) (hl : l.length ≤ 9223372036854775807) : Ev (fun k => Z0.f k l x y) (covL l x y) := by
 have h := rhas_l0 l x y hl _ 0 rfl (Nat.zero_le _);rw [List.drop_zero] at h;exact Ev.congr (fun k => rfl) h
def rc (u v : Int) (s : Sp) : S43 := ⟨s.1,u,s.2 - s.1,v - u⟩
theorem YW (u v : Int) (t : List Sp) : bandL (u,v,t) = t.map (rc u v) := rfl
def addS (acc : List Sp) (s : Sp) : List Sp := match acc with
 | (a,b) :: r => if b = s.1 then (a,s.2) :: r else s :: (a,b) :: r
 | [] => [s]
def bdS (s : Sp) : Prop := -40000 ≤ s.1 ∧ s.1 ≤ 40000 ∧ -40000 ≤ s.2 ∧ s.2 ≤ 40000
theorem addS_bd {acc : List Sp} {s : Sp} (h : ∀ q ∈ acc,bdS q) (hs : bdS s) : ∀ q ∈ addS acc s,bdS q := by
 intro q hq
 cases acc with
 | nil => simp [addS] at hq;subst hq;exact hs
 | cons e r =>
  obtain ⟨a,b⟩ := e
  by_cases hb : b = s.1
  · simp only [addS,hb,if_true] at hq
    rcases List.mem_cons.mp hq with rfl | hq
    · have := h (a,b) (by simp)
      exact ⟨this.1,this.2.1,hs.2.2.1,hs.2.2.2⟩
    · exact h q (by simp [hq])
  · simp only [addS,hb,if_false] at hq
    rcases List.mem_cons.mp hq with rfl | hq
    · exact hs
    · exact h q hq
theorem JQ (acc : List Sp) (s : Sp) : (addS acc s).length ≤ acc.length + 1 := by
 unfold addS;split
 · split <;> simp
 · simp
theorem Qi {l : List S43} {k : Nat} {x : S43} (h : l[k]? = some x) : Ze l (k : Int) = x := by
 have hlt := (List.getElem?_eq_some_iff.1 h).1;have := Xr l k hlt;rw [h] at this;exact (Option.some.inj this).symm
theorem rrow_l0 (u v : Int) (c : List Sp) (hc : ∀ q ∈ c,bdS q) (hcl : c.length ≤ 100000) : ∀ (n kk : Nat) (acc : List Sp),c.length - kk = n → kk ≤ c.length → (∀ q ∈ acc,bdS q) → acc.length ≤ kk →
 Ev (fun k => Zv.l0 k (c.map (rc u v)) (acc.reverse.map (rc u v)) kk) (((c.drop kk).foldl addS acc).reverse.map (rc u v)) := by
 intro n
 induction n with
 | zero =>
  intro kk acc hn hk hb ha;rw [List.drop_eq_nil_of_le (by omega)];refine Ev.pure (fun k => ?_);simp only [Zv.l0,List.length_map];rw [if_neg (by omega)];rfl
 | succ n ih =>
  intro kk acc hn hk hb ha
  have hlt : kk < c.length := by omega
  obtain ⟨s,hs⟩ : ∃ s,c[kk]? = some s := ⟨_,List.getElem?_eq_getElem hlt⟩
  have hsm : s ∈ c := List.mem_of_getElem? hs;have hbs := hc s hsm;have e0 : Ze (c.map (rc u v)) (kk : Int) = rc u v s := Qi (by rw [List.getElem?_map,hs];rfl)
  have hd : c.drop kk = s :: c.drop (kk + 1) := by
   obtain ⟨hlt',rfl⟩ := List.getElem?_eq_some_iff.1 hs;exact List.drop_eq_getElem_cons hlt'
  have hw : wrap64 ((kk : Int) + 1) = ((kk + 1 : Nat) : Int) := Xi (by omega);rw [hd,List.foldl_cons];have h := ih (kk + 1) (addS acc s) (by omega) (by omega) (addS_bd hb hbs) (by have := JQ acc s;omega);refine Ev.step (fun k => ?_) h
  have i0 : (0 : Int) ≤ (kk : Int) := by omega
  have i1 : (kk : Int) < (c.length : Int) := by omega
  simp only [Zv.l0,List.length_map,List.length_reverse];rw [if_pos i1,e0]
  cases acc with
  | nil =>
   rw [if_neg (by simp),if_pos i0,if_pos (by simp),hw];rfl
  | cons q r =>
   obtain ⟨a,b⟩ := q;have hq := hb (a,b) (by simp)
   have hlen : wrap64 ((((a,b) :: r).length : Int) - 1) = (r.length : Int) := by
    have : r.length ≤ 100000 := by simp at ha;omega
    have e9 : (((a,b) :: r).length : Int) = (r.length : Int) + 1 := by simp
    rw [e9,w64 (by omega) (by omega)];omega
   have e1 : Ze (((a,b) :: r).reverse.map (rc u v)) (r.length : Int) = rc u v (a,b) := Qi (by
    rw [List.getElem?_map,List.reverse_cons,List.getElem?_append_right (by simp)]
    simp)
   rw [if_pos (by simp),hlen,if_pos (by omega),if_pos (by simp;omega),if_pos i0,e1]
   have w1 : wrap64 ((rc u v (a,b)).f0 + (rc u v (a,b)).f2) = b := by
    simp only [rc];rw [w64 (by have := hq.2.2.1;simp at this ⊢;omega) (by have := hq.2.2.2;simp at this ⊢;omega)];omega
   rw [w1]
   by_cases hbs2 : b = s.1
   · have e2 : (rc u v s).f0 = s.1 := rfl
     rw [if_pos (by rw [e2];exact hbs2),hw]
     have e3 : addS ((a,b) :: r) s = (a,s.2) :: r := by simp [addS,hbs2]
     rw [e3]
     congr 1
     have w2 : wrap64 ((rc u v (a,b)).f2 + (rc u v s).f2) = s.2 - a := by
      simp only [rc];have q1 := hq.1;have q2 := hq.2.1;have q3 := hbs.2.2.1;have q4 := hbs.2.2.2;simp at q1 q2;rw [w64 (by omega) (by omega)];omega
     rw [w2];simp only [Int.toNat_natCast,List.reverse_cons,List.map_append,List.map_cons,List.map_nil];rw [List.set_append_right _ _ (by simp)];simp [rc]
   · have e2 : (rc u v s).f0 = s.1 := rfl
     rw [if_neg (by rw [e2];exact hbs2),if_pos (by simp at ha ⊢;omega),hw]
     have e3 : addS ((a,b) :: r) s = s :: (a,b) :: r := by simp [addS,hbs2]
     rw [e3]
     congr 1
     simp [rc]
theorem rrow (u v : Int) (c : List Sp) (hc : ∀ q ∈ c,bdS q) (hcl : c.length ≤ 100000) : Ev (fun k => Zv.f k (c.map (rc u v))) ((c.foldl addS []).reverse.map (rc u v)) := by
 have h := rrow_l0 u v c hc hcl _ 0 [] rfl (Nat.zero_le _) (by intro q h;cases h) (Nat.le_refl _);rw [List.drop_zero] at h;exact Ev.congr (fun k => rfl) h
end Go.Proofs.Ythbajahklnpkcaa.PA

namespace Go.Proofs.Ythbajahklnpkcaa.PA
open Go.RowKit
def Xk.f (a0 a1 a2 a3 : Int) : Option Bool := some (okR ⟨a0,a1,a2,a3⟩)
theorem Xk.calls (a0 a1 a2 a3 : Int) (r : Bool) (w : World) (h : Xk.f a0 a1 a2 a3 = some r) :
 Calls Try.prog 72 #[.agg #[.int .i64 a0,.int .i64 a1,.int .i64 a2,.int .i64 a3]] w fun e w' => e = .returned (.bool r) ∧ Below w.heap.size w w' := by
 cases h
 exact Qx ⟨a0,a1,a2,a3⟩ w
end Go.Proofs.Ythbajahklnpkcaa.PA
