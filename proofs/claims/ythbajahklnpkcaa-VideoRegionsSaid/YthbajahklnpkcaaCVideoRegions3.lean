/- VideoRegions, part 3: what the row is built on. -/
import Derived.Test.YthbajahklnpkcaaCVideoRegions2
import Derived.BigQuiet
import Derived.Laws.CopyOwn
import Derived.Deep.RegionLaw
namespace Go.Proofs.Ythbajahklnpkcaa.PA
open Go.RowKit Go.Shelf Go.Proofs.YthbajahklnpkcaaW.PrintWords Go.Proofs.YthbajahklnpkcaaW.PrintLast Go.Proofs.YthbajahklnpkcaaW.PrintMore
set_option linter.unusedVariables false
set_option linter.unusedSimpArgs false
def S5 (x y : Int) (A : Option Addr) (c : Nat) (ll : List S43) (wr : World) : Prop :=
 ∃ (p1 : Bool) (p2 n1 n2 q1 q2 q3 q4 q5 : Int) (m : List S43) (m2 : Int),
  (∀ W,Below wr.heap.size wr W → Zb (Calls Try.prog 24 #[.slice A ll.length c,.int .i64 x,.int .i64 y] W fun e w' => e = .returned (.tuple #[.bool p1,.int .i64 p2]) ∧ Below W.heap.size W w')) ∧
  (∀ W,Below wr.heap.size wr W → Zb (Calls Try.prog 25 #[.slice A ll.length c,.int .i64 x,.int .i64 y] W fun e w' => e = .returned (.tuple #[.bool p1,.int .i64 p2]) ∧ Below W.heap.size W w')) ∧
  (∀ W,Below wr.heap.size wr W → Zb (Calls Try.prog 17 #[.slice A ll.length c] W fun e w' => e = .returned (.tuple #[.int .i64 n1,.int .i64 n2]) ∧ Below W.heap.size W w')) ∧
  (∀ W,Below wr.heap.size wr W → Zb (Calls Try.prog 26 #[.slice A ll.length c] W fun e w' => e = .returned (.tuple #[.int .i64 n1,.int .i64 n2]) ∧ Below W.heap.size W w')) ∧
  (∀ W,Below wr.heap.size wr W → Zb (Calls Try.prog 27 #[.slice A ll.length c] W fun e w' => e = .returned (.tuple #[.agg #[.int .i64 q1,.int .i64 q2,.int .i64 q3,.int .i64 q4],.int .i64 q5]) ∧ Below W.heap.size W w')) ∧
  (∀ W,Below wr.heap.size wr W → Zb (Calls Try.prog 28 #[.slice A ll.length c] W fun e w' => e = .returned (.tuple #[.agg #[.int .i64 q1,.int .i64 q2,.int .i64 q3,.int .i64 q4],.int .i64 q5]) ∧ Below W.heap.size W w')) ∧
  (∀ W,Below wr.heap.size wr W → Zb (Calls Try.prog 29 #[.slice A ll.length c,.int .i64 x,.int .i64 y] W fun e w' => ∃ B k,e = .returned (.tuple #[.slice B m.length k,.int .i64 m2]) ∧ m.length ≤ k ∧ Kd.C k43 w' B m.length m ∧ Below W.heap.size W w')) ∧
  (∀ W,Below wr.heap.size wr W → Zb (Calls Try.prog 30 #[.slice A ll.length c,.int .i64 x,.int .i64 y] W fun e w' => ∃ B k,e = .returned (.tuple #[.slice B m.length k,.int .i64 m2]) ∧ m.length ≤ k ∧ Kd.C k43 w' B m.length m ∧ Below W.heap.size W w'))
set_option maxRecDepth 100000 in
set_option maxHeartbeats 8000000 in
theorem regions_walk0 (A0 : Option Addr) (c0 : Nat) (l aa : List S43) (x y ee : Int) (hv vb : Bool) (w : World)
 (H10 : ∀ W : World,Zb (Calls Try.prog 10 #[] W fun e w' => e = .returned (.bool true) ∧ Below W.heap.size W w'))
 (H11 : ∀ W,Below w.heap.size w W → Zb (Calls Try.prog 11 #[.slice A0 l.length c0,.slice none 0 0] W fun e w' => e = .returned (.bool hv) ∧ Below W.heap.size W w'))
 (H20 : hv = false → ∀ W,Below w.heap.size w W → Zb (Calls Try.prog 20 #[.slice A0 l.length c0] W fun e w' => ∃ B k,e = .returned (.tuple #[.slice B aa.length k,.int .i64 ee]) ∧ aa.length ≤ k ∧ Kd.C k43 w' B aa.length aa ∧ Below W.heap.size W w'))
 (H21 : ∀ W,Below w.heap.size w W → Zb (Calls Try.prog 21 #[.slice A0 l.length c0] W fun e w' => ∃ B k,e = .returned (.tuple #[.slice B aa.length k,.int .i64 ee]) ∧ aa.length ≤ k ∧ Kd.C k43 w' B aa.length aa ∧ Below W.heap.size W w'))
 (H14 : ∀ W (B1 B2 : Option Addr) (k1 k2 : Nat) (mm : List S43),Kd.C k43 W B1 mm.length mm → mm.length ≤ k1 → Kd.C k43 W B2 mm.length mm → mm.length ≤ k2 → Zb (Calls Try.prog 14 #[.slice B1 mm.length k1,.slice B2 mm.length k2] W fun e w' => e = .returned (.bool true) ∧ Below W.heap.size W w'))
 (H22 : ∀ W,Below w.heap.size w W → Zb (Calls Try.prog 22 #[.slice A0 l.length c0] W fun e w' => e = .returned (.bool vb) ∧ Below W.heap.size W w'))
 (H23 : ∀ W,Below w.heap.size w W → Zb (Calls Try.prog 23 #[.slice A0 l.length c0] W fun e w' => e = .returned (.bool vb) ∧ Below W.heap.size W w'))
 (H22a : ee = 0 → ∀ W (B : Option Addr) (k : Nat),Kd.C k43 W B aa.length aa → aa.length ≤ k → Zb (Calls Try.prog 22 #[.slice B aa.length k] W fun e w' => e = .returned (.bool true) ∧ Below W.heap.size W w'))
 (H5 : ∀ A c (ll : List S43) W,Kd.C k43 W A ll.length ll → ll.length ≤ c → S5 x y A c ll W)
 (hr0 : Kd.C k43 w A0 l.length l) (hc0 : l.length ≤ c0) :
 Calls Try.prog 5 #[.slice A0 l.length c0,.int .i64 x,.int .i64 y] w fun e w' => e = .returned (.bool true) ∧ Below w.heap.size w w' := by
 have HR0 := Zb.mk hr0;have HC0 := Zb.mk hc0;clear hr0 hc0
 cases hv with
 | true =>
  clear H20
  go_enter Try.func5,Try.ntmps5
  go_wp2_with (first | (go_at_call 10;refine (H10 _).out.mono ?_;rintro e w1 ⟨rfl,hb1⟩;have HB1 := Zb.mk hb1;clear hb1) | (go_at_call 11;refine (H11 _ HB1.out).out.mono ?_;rintro e w2 ⟨rfl,hb2⟩;have HB2 := Zb.mk (HB1.out.trans (hb2.mono HB1.out.size));clear hb2))
  go_ret;exact ⟨rfl,HB2.out⟩
 | false =>
  replace H20 := H20 rfl
  have hx : ee ≠ 0 ∨ ee = 0 := by omega
  rcases hx with he | rfl
  · have he1 : decide (ee = 0) = false := decide_eq_false he
    clear H22a
    go_enter Try.func5,Try.ntmps5
    go_wp2_with (first
     | (go_at_call 10;refine (H10 _).out.mono ?_;rintro e w1 ⟨rfl,hb1⟩;have HB1 := Zb.mk hb1;clear hb1)
     | (go_at_call 11;refine (H11 _ HB1.out).out.mono ?_;rintro e w2 ⟨rfl,hb2⟩;have HB2 := Zb.mk (HB1.out.trans (hb2.mono HB1.out.size));clear hb2)
     | (go_at_call 20;refine (H20 _ HB2.out).out.mono ?_;rintro e w3 ⟨B3,k3,rfl,hk3,hc3,hb3⟩;have HB3 := Zb.mk (HB2.out.trans (hb3.mono HB2.out.size));have HC3 := Zb.mk hc3;have HK3 := Zb.mk hk3;clear hb3 hc3 hk3)
     | (go_at_call 21;refine (H21 _ HB3.out).out.mono ?_;rintro e w4 ⟨B4,k4,rfl,hk4,hc4,hb4⟩;have HB4 := Zb.mk (HB3.out.trans (hb4.mono HB3.out.size));have HC4 := Zb.mk hc4;have HK4 := Zb.mk hk4;have HC3' := Zb.mk (Kd.Z5 HC3.out hb4);clear hb4 hc4 hk4)
     | (go_at_call 14;refine (H14 _ B3 B4 k3 k4 aa HC3'.out HK3.out HC4.out HK4.out).out.mono ?_;rintro e w5 ⟨rfl,hb5⟩;have HB5 := Zb.mk (HB4.out.trans (hb5.mono HB4.out.size));have HC5 := Zb.mk (Kd.Z5 HC4.out hb5);have HC5' := Zb.mk (Kd.Z5 HC3'.out hb5);clear hb5)
     | (go_at_call 22;with_reducible refine (H22 _ HB5.out).out.mono ?_;rintro e w6 ⟨rfl,hb6⟩;have HB6 := Zb.mk (HB5.out.trans (hb6.mono HB5.out.size));have HC6 := Zb.mk (Kd.Z5 HC5.out hb6);have HC6' := Zb.mk (Kd.Z5 HC5'.out hb6);clear hb6)
     | (go_at_call 23;refine (H23 _ HB6.out).out.mono ?_;rintro e w7 ⟨rfl,hb7⟩;have HB7 := Zb.mk (HB6.out.trans (hb7.mono HB6.out.size));have HC7 := Zb.mk (Kd.Z5 HC6.out hb7);have HC7' := Zb.mk (Kd.Z5 HC6'.out hb7);clear hb7))
    clear H10 H11 H20 H21 H22 H23 HB1 HB2 HB3 HB4 HB5 HB6 HC3 HC3' HC4 HC5 HC5' HC6 HC6' HC7' HK3;have HR9 := Zb.mk (Kd.Z5 HR0.out HB7.out)
    go_loopg [0,11] 2 (fun gg s0 s11 wr => ∃ (A : Option Addr) (c : Nat) (ll : List S43) (kk : Nat),s0 = .slice A ll.length c ∧ s11 = .int .i64 kk ∧ kk ≤ 2 ∧ 2 - kk ≤ gg ∧ Zb (ll.length ≤ c) ∧ Zb (Kd.C k43 wr A ll.length ll) ∧ Zb (Kd.C k43 wr B4 aa.length aa) ∧ Zb (Below w.heap.size w wr))
    case atStart => exact ⟨A0,c0,l,0,rfl,rfl,by omega,by omega,HC0,HR9,HC7,HB7⟩
    case round =>
     obtain ⟨A,c,ll,kk,rfl,rfl,hkk,hg,QC,QR,QB,QW⟩ := hrel;clear HR9 HR0 HC0 HB7 HC7
     by_cases hlt : kk < 2
     · have hltz : (kk : Int) < 2 := by omega
       have hltd : decide ((kk : Int) < 2) = true := decide_eq_true hltz;have hwr : wrap64 ((kk : Int) + 1) = ((kk + 1 : Nat) : Int) := Xi (by omega)
       have hwr2 : IntKind.i64.wrap ((kk : Int) + 1) = ((kk + 1 : Nat) : Int) := by rw [i64_w];exact hwr
       obtain ⟨p1,p2,n1,n2,q1,q2,q3,q4,q5,m,m2,G24,G25,G17,G26,G27,G28,G29,G30⟩ := H5 A c ll wr QR.out QC.out;have U0 := Zb.mk (Below.refl wr.heap.size wr)
       go_wp2_with (first
        | (go_at_call 24;refine (G24 _ U0.out).out.mono ?_;rintro e w11 ⟨rfl,hb⟩;have U1 := Zb.mk (U0.out.trans (hb.mono U0.out.size));clear hb)
        | (go_at_call 25;refine (G25 _ U1.out).out.mono ?_;rintro e w12 ⟨rfl,hb⟩;have U2 := Zb.mk (U1.out.trans (hb.mono U1.out.size));clear hb)
        | (go_at_call 17;refine (G17 _ U2.out).out.mono ?_;rintro e w13 ⟨rfl,hb⟩;have U3 := Zb.mk (U2.out.trans (hb.mono U2.out.size));clear hb)
        | (go_at_call 26;refine (G26 _ U3.out).out.mono ?_;rintro e w14 ⟨rfl,hb⟩;have U4 := Zb.mk (U3.out.trans (hb.mono U3.out.size));clear hb)
        | (go_at_call 27;refine (G27 _ U4.out).out.mono ?_;rintro e w15 ⟨rfl,hb⟩;have U5 := Zb.mk (U4.out.trans (hb.mono U4.out.size));have N5 := Zb.mk (Blk.new w15 #[.int .i64 q1,.int .i64 q2,.int .i64 q3,.int .i64 q4] 43);have U6 := Zb.mk (U5.out.alloc U5.out.size (.cells #[.int .i64 q1,.int .i64 q2,.int .i64 q3,.int .i64 q4] 43));clear hb)
        | (go_at_call 28;refine (G28 _ U6.out).out.mono ?_;rintro e w16 ⟨rfl,hb⟩;have X7 := (N5.out.X5 hb).alloc (.cells #[.int .i64 q1,.int .i64 q2,.int .i64 q3,.int .i64 q4] 43);have X9 := Blk.new w16 #[.int .i64 q1,.int .i64 q2,.int .i64 q3,.int .i64 q4] 43;have a0 := X7.cell 0 (v := .int .i64 q1) rfl;have a1 := X7.cell 1 (v := .int .i64 q2) rfl;have a2 := X7.cell 2 (v := .int .i64 q3) rfl;have a3 := X7.cell 3 (v := .int .i64 q4) rfl;have b0 := X9.cell 0 (v := .int .i64 q1) rfl;have b1 := X9.cell 1 (v := .int .i64 q2) rfl;have b2 := X9.cell 2 (v := .int .i64 q3) rfl;have b3 := X9.cell 3 (v := .int .i64 q4) rfl;have U7 := Zb.mk (U6.out.trans (hb.mono U6.out.size));have U8 := Zb.mk (U7.out.alloc U7.out.size (.cells #[.int .i64 q1,.int .i64 q2,.int .i64 q3,.int .i64 q4] 43));clear hb X7 X9)
        | (go_at_call 29;refine (G29 _ U8.out).out.mono ?_;rintro e w17 ⟨B7,k7,rfl,hk7,hc7,hb⟩;have U9 := Zb.mk (U8.out.trans (hb.mono U8.out.size));have KC7 := Zb.mk hc7;have KK7 := Zb.mk hk7;clear hb hc7 hk7)
        | (go_at_call 30;refine (G30 _ U9.out).out.mono ?_;rintro e w18 ⟨B8,k8,rfl,hk8,hc8,hb⟩;have U10 := Zb.mk (U9.out.trans (hb.mono U9.out.size));have KC8 := Zb.mk hc8;have KK8 := Zb.mk hk8;have KC7' := Zb.mk (Kd.Z5 KC7.out hb);clear hb hc8 hk8)
        | (go_at_call 14;refine (H14 _ B7 B8 k7 k8 m KC7'.out KK7.out KC8.out KK8.out).out.mono ?_;rintro e w19 ⟨rfl,hb⟩;have U11 := Zb.mk (U10.out.trans (hb.mono U10.out.size));clear hb))
       go_roundg (2 - (kk + 1))
       case measure => omega
       case rel => exact ⟨B4,k4,aa,kk + 1,rfl,by go_num,by omega,by omega,HK4,⟨Kd.Z5 QB.out U11.out⟩,⟨Kd.Z5 QB.out U11.out⟩,⟨QW.out.trans (U11.out.mono QW.out.size)⟩⟩
     · have hltz : ¬ (kk : Int) < 2 := by omega
       have hltd : decide ((kk : Int) < 2) = false := decide_eq_false hltz
       go_wp2
       go_ret;exact ⟨rfl,QW.out⟩
  · replace H22a := H22a rfl
    go_enter Try.func5,Try.ntmps5
    go_wp2_with (first
     | (go_at_call 10;refine (H10 _).out.mono ?_;rintro e w1 ⟨rfl,hb1⟩;have HB1 := Zb.mk hb1;clear hb1)
     | (go_at_call 11;refine (H11 _ HB1.out).out.mono ?_;rintro e w2 ⟨rfl,hb2⟩;have HB2 := Zb.mk (HB1.out.trans (hb2.mono HB1.out.size));clear hb2)
     | (go_at_call 20;refine (H20 _ HB2.out).out.mono ?_;rintro e w3 ⟨B3,k3,rfl,hk3,hc3,hb3⟩;have HB3 := Zb.mk (HB2.out.trans (hb3.mono HB2.out.size));have HC3 := Zb.mk hc3;have HK3 := Zb.mk hk3;clear hb3 hc3 hk3)
     | (go_at_call 21;refine (H21 _ HB3.out).out.mono ?_;rintro e w4 ⟨B4,k4,rfl,hk4,hc4,hb4⟩;have HB4 := Zb.mk (HB3.out.trans (hb4.mono HB3.out.size));have HC4 := Zb.mk hc4;have HK4 := Zb.mk hk4;have HC3' := Zb.mk (Kd.Z5 HC3.out hb4);clear hb4 hc4 hk4)
     | (go_at_call 14;refine (H14 _ B3 B4 k3 k4 aa HC3'.out HK3.out HC4.out HK4.out).out.mono ?_;rintro e w5 ⟨rfl,hb5⟩;have HB5 := Zb.mk (HB4.out.trans (hb5.mono HB4.out.size));have HC5 := Zb.mk (Kd.Z5 HC4.out hb5);have HC5' := Zb.mk (Kd.Z5 HC3'.out hb5);clear hb5)
     | (go_at_call 22;with_reducible refine (H22 _ HB5.out).out.mono ?_;rintro e w6 ⟨rfl,hb6⟩;have HB6 := Zb.mk (HB5.out.trans (hb6.mono HB5.out.size));have HC6 := Zb.mk (Kd.Z5 HC5.out hb6);have HC6' := Zb.mk (Kd.Z5 HC5'.out hb6);clear hb6)
     | (go_at_call 23;refine (H23 _ HB6.out).out.mono ?_;rintro e w7 ⟨rfl,hb7⟩;have HB7 := Zb.mk (HB6.out.trans (hb7.mono HB6.out.size));have HC7 := Zb.mk (Kd.Z5 HC6.out hb7);have HC7' := Zb.mk (Kd.Z5 HC6'.out hb7);clear hb7)
     | (go_at_call 22;with_reducible refine (H22a _ B3 k3 HC7'.out HK3.out).out.mono ?_;rintro e w8 ⟨rfl,hb8⟩;have HB8 := Zb.mk (HB7.out.trans (hb8.mono HB7.out.size));have HC8 := Zb.mk (Kd.Z5 HC7.out hb8);clear hb8))
    clear H10 H11 H20 H21 H22 H23 H22a HB1 HB2 HB3 HB4 HB5 HB6 HB7 HC3 HC3' HC4 HC5 HC5' HC6 HC6' HC7 HC7' HK3;have HR9 := Zb.mk (Kd.Z5 HR0.out HB8.out)
    go_loopg [0,11] 2 (fun gg s0 s11 wr => ∃ (A : Option Addr) (c : Nat) (ll : List S43) (kk : Nat),s0 = .slice A ll.length c ∧ s11 = .int .i64 kk ∧ kk ≤ 2 ∧ 2 - kk ≤ gg ∧ Zb (ll.length ≤ c) ∧ Zb (Kd.C k43 wr A ll.length ll) ∧ Zb (Kd.C k43 wr B4 aa.length aa) ∧ Zb (Below w.heap.size w wr))
    case atStart => exact ⟨A0,c0,l,0,rfl,rfl,by omega,by omega,HC0,HR9,HC8,HB8⟩
    case round =>
     obtain ⟨A,c,ll,kk,rfl,rfl,hkk,hg,QC,QR,QB,QW⟩ := hrel;clear HR9 HR0 HC0 HB8 HC8
     by_cases hlt : kk < 2
     · have hltz : (kk : Int) < 2 := by omega
       have hltd : decide ((kk : Int) < 2) = true := decide_eq_true hltz;have hwr : wrap64 ((kk : Int) + 1) = ((kk + 1 : Nat) : Int) := Xi (by omega)
       have hwr2 : IntKind.i64.wrap ((kk : Int) + 1) = ((kk + 1 : Nat) : Int) := by rw [i64_w];exact hwr
       obtain ⟨p1,p2,n1,n2,q1,q2,q3,q4,q5,m,m2,G24,G25,G17,G26,G27,G28,G29,G30⟩ := H5 A c ll wr QR.out QC.out;have U0 := Zb.mk (Below.refl wr.heap.size wr)
       go_wp2_with (first
        | (go_at_call 24;refine (G24 _ U0.out).out.mono ?_;rintro e w11 ⟨rfl,hb⟩;have U1 := Zb.mk (U0.out.trans (hb.mono U0.out.size));clear hb)
        | (go_at_call 25;refine (G25 _ U1.out).out.mono ?_;rintro e w12 ⟨rfl,hb⟩;have U2 := Zb.mk (U1.out.trans (hb.mono U1.out.size));clear hb)
        | (go_at_call 17;refine (G17 _ U2.out).out.mono ?_;rintro e w13 ⟨rfl,hb⟩;have U3 := Zb.mk (U2.out.trans (hb.mono U2.out.size));clear hb)
        | (go_at_call 26;refine (G26 _ U3.out).out.mono ?_;rintro e w14 ⟨rfl,hb⟩;have U4 := Zb.mk (U3.out.trans (hb.mono U3.out.size));clear hb)
        | (go_at_call 27;refine (G27 _ U4.out).out.mono ?_;rintro e w15 ⟨rfl,hb⟩;have U5 := Zb.mk (U4.out.trans (hb.mono U4.out.size));have N5 := Zb.mk (Blk.new w15 #[.int .i64 q1,.int .i64 q2,.int .i64 q3,.int .i64 q4] 43);have U6 := Zb.mk (U5.out.alloc U5.out.size (.cells #[.int .i64 q1,.int .i64 q2,.int .i64 q3,.int .i64 q4] 43));clear hb)
        | (go_at_call 28;refine (G28 _ U6.out).out.mono ?_;rintro e w16 ⟨rfl,hb⟩;have X7 := (N5.out.X5 hb).alloc (.cells #[.int .i64 q1,.int .i64 q2,.int .i64 q3,.int .i64 q4] 43);have X9 := Blk.new w16 #[.int .i64 q1,.int .i64 q2,.int .i64 q3,.int .i64 q4] 43;have a0 := X7.cell 0 (v := .int .i64 q1) rfl;have a1 := X7.cell 1 (v := .int .i64 q2) rfl;have a2 := X7.cell 2 (v := .int .i64 q3) rfl;have a3 := X7.cell 3 (v := .int .i64 q4) rfl;have b0 := X9.cell 0 (v := .int .i64 q1) rfl;have b1 := X9.cell 1 (v := .int .i64 q2) rfl;have b2 := X9.cell 2 (v := .int .i64 q3) rfl;have b3 := X9.cell 3 (v := .int .i64 q4) rfl;have U7 := Zb.mk (U6.out.trans (hb.mono U6.out.size));have U8 := Zb.mk (U7.out.alloc U7.out.size (.cells #[.int .i64 q1,.int .i64 q2,.int .i64 q3,.int .i64 q4] 43));clear hb X7 X9)
        | (go_at_call 29;refine (G29 _ U8.out).out.mono ?_;rintro e w17 ⟨B7,k7,rfl,hk7,hc7,hb⟩;have U9 := Zb.mk (U8.out.trans (hb.mono U8.out.size));have KC7 := Zb.mk hc7;have KK7 := Zb.mk hk7;clear hb hc7 hk7)
        | (go_at_call 30;refine (G30 _ U9.out).out.mono ?_;rintro e w18 ⟨B8,k8,rfl,hk8,hc8,hb⟩;have U10 := Zb.mk (U9.out.trans (hb.mono U9.out.size));have KC8 := Zb.mk hc8;have KK8 := Zb.mk hk8;have KC7' := Zb.mk (Kd.Z5 KC7.out hb);clear hb hc8 hk8)
        | (go_at_call 14;refine (H14 _ B7 B8 k7 k8 m KC7'.out KK7.out KC8.out KK8.out).out.mono ?_;rintro e w19 ⟨rfl,hb⟩;have U11 := Zb.mk (U10.out.trans (hb.mono U10.out.size));clear hb))
       go_roundg (2 - (kk + 1))
       case measure => omega
       case rel => exact ⟨B4,k4,aa,kk + 1,rfl,by go_num,by omega,by omega,HK4,⟨Kd.Z5 QB.out U11.out⟩,⟨Kd.Z5 QB.out U11.out⟩,⟨QW.out.trans (U11.out.mono QW.out.size)⟩⟩
     · have hltz : ¬ (kk : Int) < 2 := by omega
       have hltd : decide ((kk : Int) < 2) = false := decide_eq_false hltz
       go_wp2
       go_ret;exact ⟨rfl,QW.out⟩
end Go.Proofs.Ythbajahklnpkcaa.PA

namespace Go.Proofs.Ythbajahklnpkcaa.PA
open Go.RowKit Go.Proofs.YthbajahklnpkcaaW.PrintWords Go.Proofs.YthbajahklnpkcaaW.PrintLast Go.Proofs.YthbajahklnpkcaaW.PrintMore
attribute [local go_sem] ZK ZL ZR ZU ZD ZC ZM ZN
set_option linter.unusedVariables false
set_option linter.unusedSimpArgs false
def ZV.f (a0 : Int) : Option (Bool) := if a0 = 0 then (some true) else (some (a0 == 1))
set_option maxHeartbeats 8000000 in
set_option maxRecDepth 100000 in
theorem ZV.calls (a0 : Int) (r : Bool) (w : World) (h : ZV.f a0 = some r) :
 Calls Try.prog 95 #[.int .i64 a0] w fun e w' => e = .returned (.bool r) ∧ Drawn0 w w' := by
 have H : (if a0 = 0 then (some true) else (some (a0 == 1))) = some r := h;clear h
 by_cases c2 : a0 = 0
 · rw [if_pos c2] at H
   have c2b0 : (a0 == 0) = true := beq_iff_eq.mpr c2;have c2b1 : (a0 != 0) = false := bne_eq_false_iff_eq.mpr c2;clear c2;obtain rfl := Option.some.inj H
   go_enter Try.func95,Try.ntmps95
   go_wp2
   go_ret;exact ⟨by first | rfl | (simp;done) | (simp [*];done),by repeat (first | exact Drawn0.refl _ | apply Drawn0.step)⟩
 · rw [if_neg c2] at H
   have c2b0 : (a0 == 0) = false := beq_eq_false_iff_ne.mpr c2;have c2b1 : (a0 != 0) = true := bne_iff_ne.mpr c2;obtain rfl := Option.some.inj H
   go_enter Try.func95,Try.ntmps95
   go_wp2
   go_ret;exact ⟨by first | rfl | (simp;done) | (simp [*];done),by repeat (first | exact Drawn0.refl _ | apply Drawn0.step)⟩
end Go.Proofs.Ythbajahklnpkcaa.PA

namespace Go.Proofs.Ythbajahklnpkcaa.PA
open Go.RowKit Go.Proofs.YthbajahklnpkcaaW.PrintWords Go.Proofs.YthbajahklnpkcaaW.PrintLast Go.Proofs.YthbajahklnpkcaaW.PrintMore
attribute [local go_sem] ZK ZL ZR ZU ZD ZC ZM ZN
set_option linter.unusedVariables false
set_option linter.unusedSimpArgs false
def Xu.f (a0 : Int) : Option (Bool) := if a0 ≥ 1 then (some (decide (a0 ≤ 4))) else (some false)
set_option maxHeartbeats 8000000 in
set_option maxRecDepth 100000 in
theorem Xu.calls (a0 : Int) (r : Bool) (w : World) (h : Xu.f a0 = some r) :
 Calls Try.prog 115 #[.int .i64 a0] w fun e w' => e = .returned (.bool r) ∧ Drawn0 w w' := by
 have H : (if a0 ≥ 1 then (some (decide (a0 ≤ 4))) else (some false)) = some r := h;clear h
 by_cases c2 : a0 ≥ 1
 · rw [if_pos c2] at H
   have c2b0 : decide (1 ≤ a0) = true := decide_eq_true c2;clear c2;obtain rfl := Option.some.inj H
   go_enter Try.func115,Try.ntmps115
   go_wp2
   go_ret;exact ⟨by first | rfl | (simp;done) | (simp [*];done),by repeat (first | exact Drawn0.refl _ | apply Drawn0.step)⟩
 · rw [if_neg c2] at H
   have c2b0 : decide (1 ≤ a0) = false := decide_eq_false c2;clear c2;obtain rfl := Option.some.inj H
   go_enter Try.func115,Try.ntmps115
   go_wp2
   go_ret;exact ⟨by first | rfl | (simp;done) | (simp [*];done),by repeat (first | exact Drawn0.refl _ | apply Drawn0.step)⟩
end Go.Proofs.Ythbajahklnpkcaa.PA

namespace Go.Proofs.Ythbajahklnpkcaa.PA
open Go.RowKit Go.Shelf Go.Proofs.YthbajahklnpkcaaW.PrintWords Go.Proofs.YthbajahklnpkcaaW.PrintLast Go.Proofs.YthbajahklnpkcaaW.PrintMore
set_option linter.unusedVariables false
set_option linter.unusedSimpArgs false
theorem rd_getElem (l : List Int) (k : Nat) (h : k < l.length) : l[k]? = some (rd l k) := by
 rw [List.getElem?_eq_getElem h];simp [rd,h]
end Go.Proofs.Ythbajahklnpkcaa.PA

namespace Go.Proofs.Ythbajahklnpkcaa.PA
open Go.RowKit Go.Shelf Go.Proofs.YthbajahklnpkcaaW.PrintWords Go.Proofs.YthbajahklnpkcaaW.PrintLast Go.Proofs.YthbajahklnpkcaaW.PrintMore
set_option linter.unusedVariables false
set_option linter.unusedSimpArgs false
theorem Js (z : Int) : ∀ l : List Int,placeC l z ≤ l.length
 | [] => Nat.le_refl _
 | a :: r => by
  unfold placeC;have := Js z r
  split <;> simp <;> omega
theorem J1 (z : Int) : ∀ (l : List Int) (k : Nat) (x : Int),k < placeC l z → l[k]? = some x → x < z
 | [],k,x,h,_ => by simp [placeC] at h
 | a :: r,k,x,h,hx => by
  unfold placeC at h;split at h
  · rename_i haz
    cases k with
    | zero => simp at hx;omega
    | succ k => exact J1 z r k x (by omega) (by simpa using hx)
  · omega
theorem Jo (z : Int) : ∀ (l : List Int) (x : Int),l[placeC l z]? = some x → ¬ x < z
 | [],x,h => by simp [placeC] at h
 | a :: r,x,h => by
  unfold placeC at h;split at h
  · exact Jo z r x (by simpa using h)
  · rename_i haz
    simp at h;omega
theorem ins_cells (o : List Int) (k : Nat) (z : Int) (hk : k ≤ o.length) (rest : List Value) :
 ((splice (ints o ++ [Value.int .i64 0] ++ rest) (k + 1) (ints (o.drop k))).set k (.int .i64 z)).take (o.length + 1) = ints (o.take k ++ z :: o.drop k) := by
 have hl : (ints o).length = o.length := by simp
 have h1 : splice (ints o ++ [Value.int .i64 0] ++ rest) (k + 1) (ints (o.drop k)) = (ints o ++ [Value.int .i64 0]).take (k + 1) ++ (ints (o.drop k) ++ rest) := by
  unfold splice
  have e1 : (ints o ++ [Value.int .i64 0] ++ rest).take (k + 1) = (ints o ++ [Value.int .i64 0]).take (k + 1) := by
   rw [List.take_append_of_le_length (by simp;omega)]
  have e2 : k + 1 + (ints (o.drop k)).length = (ints o ++ [Value.int .i64 0]).length := by simp;omega
  rw [e1,e2,List.drop_left]
 have h2 : (ints o ++ [Value.int .i64 0]).take (k + 1) = ints (o.take k) ++ [((ints o ++ [Value.int .i64 0]).getD k (.int .i64 0))] := by
  rw [List.take_add_one]
  have e3 : (ints o ++ [Value.int .i64 0])[k]? = some ((ints o ++ [Value.int .i64 0]).getD k (.int .i64 0)) := by
   rw [List.getD_eq_getElem?_getD]
   have : k < (ints o ++ [Value.int .i64 0]).length := by simp;omega
   rw [List.getElem?_eq_getElem this];rfl
  rw [e3,List.take_append_of_le_length (by rw [hl];exact hk)]
  congr 1
  simp [ints,List.map_take]
 have hk2 : (ints (o.take k)).length = k := by simp;omega
 rw [h1,h2]
 have h3 : ((ints (o.take k) ++ [(ints o ++ [Value.int .i64 0]).getD k (.int .i64 0)] ++ (ints (o.drop k) ++ rest)).set k (.int .i64 z)) = ints (o.take k) ++ (.int .i64 z :: (ints (o.drop k) ++ rest)) := by
  rw [List.append_assoc,List.set_append_right _ _ (by omega),hk2,Nat.sub_self];rfl
 rw [h3]
 have h4 : ints (o.take k ++ z :: o.drop k) = ints (o.take k) ++ (.int .i64 z :: ints (o.drop k)) := by simp [ints]
 have h5 : (ints (o.take k) ++ (.int .i64 z :: ints (o.drop k))).length = o.length + 1 := by simp;omega
 rw [h4,← List.cons_append,← List.append_assoc,← h5,List.take_left]
theorem JH (z : Int) : ∀ l : List Int,(insC l z).length ≤ l.length + 1
 | [] => by simp [insC]
 | a :: r => by
  unfold insC;have := JH z r;split
  · simp;omega
  · split <;> simp
theorem cutsL_snoc (l : List Int) (z : Int) : cutsL (l ++ [z]) = insC (cutsL l) z := by simp [cutsL,List.foldl_append]
theorem cutsL_take (l : List Int) (k : Nat) (z : Int) (h : l[k]? = some z) : cutsL (l.take (k + 1)) = insC (cutsL (l.take k)) z := by
 rw [List.take_add_one,h];exact cutsL_snoc _ _
theorem Yo (l : List Int) : (cutsL l).length ≤ l.length := by
 have key : ∀ (l acc : List Int),(l.foldl insC acc).length ≤ acc.length + l.length := by
  intro l
  induction l with
  | nil => intro acc;simp
  | cons z l ih =>
   intro acc;have h1 := ih (insC acc z);have h2 := JH z acc;simp only [List.foldl_cons,List.length_cons];omega
 have := key l []
 simpa [cutsL] using this
theorem Q3 {W : World} {base c n : Nat} {B : Option Addr} {o : List Int} (h : W.ownsRow base 3 1 (.slice B n c) n (ints o)) (k : Nat) (hk : k < o.length) : ∃ g,B = some ⟨g,0,none⟩ ∧ base ≤ g ∧ W.cell? ⟨g,k,none⟩ = some (.int .i64 (o.getD k 0)) := by
 have hn : o.length = n := by have := h.1;simpa using this
 rcases h.2 with ⟨_,h0⟩ | ⟨g,cap,cur,hv,hb,hg,_,_,_,ht⟩
 · omega
 · injection hv with h1 _ _
   refine ⟨g,h1,hb,?_⟩
   have h2 : (cur.toList.take (n * 1))[k]? = some (.int .i64 (o.getD k 0)) := by rw [ht];exact Q2 hk
   rw [List.getElem?_take,if_pos (by omega)] at h2
   have h3 : cur[k]? = some (.int .i64 (o.getD k 0)) := by rw [← Array.getElem?_toList];exact h2
   exact Blk.cell (W := W) (b := g) (cs := cur) (t := 3) hg k h3
theorem Jf {W : World} {base c n : Nat} {B : Option Addr} {o : List Int} (h : W.ownsRow base 3 1 (.slice B (n + 1) c) (n + 1) (ints o ++ [.int .i64 0])) :
 ∃ g rest,B = some ⟨g,0,none⟩ ∧ base ≤ g ∧ n = o.length ∧ n + 1 ≤ c ∧ c ≤ maxLen ∧ W.heap[g]? = some (.cells (ints o ++ [Value.int .i64 0] ++ rest).toArray 3 (0,0)) ∧ (ints o ++ [Value.int .i64 0] ++ rest).length = c := by
 have hn : n = o.length := by have := h.1;simp at this;omega
 rcases h.2 with ⟨_,h0⟩ | ⟨g,cap,cur,hv,hb,hg,hnc,hm,hs,ht⟩
 · omega
 · injection hv with h1 h2 h3
   subst h3;refine ⟨g,cur.toList.drop (n + 1),h1,hb,hn,hnc,hm,?_,?_⟩
   · rw [hg,← ht,Nat.mul_one,List.take_append_drop]
   · rw [← ht,Nat.mul_one,List.take_append_drop]
     simpa using hs
theorem YI {W : World} {base g c k : Nat} {o : List Int} {z : Int} {rest : List Value} (hb : base ≤ g) (hk : k ≤ o.length) (hnc : o.length + 1 ≤ c) (hm : c ≤ maxLen) (hl : (ints o ++ [Value.int .i64 0] ++ rest).length = c)
 (hg : W.heap[g]? = some (.cells (splice (ints o ++ [Value.int .i64 0] ++ rest) (k + 1) (ints (o.drop k))).toArray 3 (0,0))) :
 (∃ v,W.cell? ⟨g,k,none⟩ = some v) ∧ W.frozen? ⟨g,k,none⟩ = false ∧ (W.setCell ⟨g,k,none⟩ (.int .i64 z)).ownsRow base 3 1 (.slice (some ⟨g,0,none⟩) (o.length + 1) c) (o.length + 1) (ints (o.take k ++ z :: o.drop k)) := by
 have HB : Blk W g (splice (ints o ++ [Value.int .i64 0] ++ rest) (k + 1) (ints (o.drop k))).toArray 3 := hg
 have hsl : (splice (ints o ++ [Value.int .i64 0] ++ rest) (k + 1) (ints (o.drop k))).length = c := by
  rw [length_splice _ _ _ (by simp at hl ⊢;omega)];exact hl
 refine ⟨?_,HB.frozen k,?_⟩
 · have hlt : k < (splice (ints o ++ [Value.int .i64 0] ++ rest) (k + 1) (ints (o.drop k))).length := by omega
   exact ⟨_,HB.cell k (by rw [List.getElem?_toArray];exact List.getElem?_eq_getElem hlt)⟩
 · refine ⟨by simp;omega,.inr ⟨g,c,_,rfl,hb,HB.set k _,hnc,hm,by rw [Array.size_setIfInBounds,Nat.mul_one];exact hsl,?_⟩⟩
   rw [Nat.mul_one,← ins_cells o k z hk rest];simp
theorem YG (W : World) (a : Value) (t : TypeId) : ∀ j u,[a][j]? = some u → (W.alloc (.cells #[a] t)).cell? ((⟨W.heap.size,0,none⟩ : Addr).add j) = some u := by
 intro j u h;have HB := Blk.new W #[a] t
 match j,h with
 | 0,h => simp at h;subst h;exact HB.cell 0 rfl
 | j + 1,h => simp at h
theorem cut_nums {k n c6 : Nat} (hk : k < n) (hn : n ≤ 100000) (hc : n + 1 ≤ c6) : IntKind.i64.wrap ((k : Int) + 1) = ((k + 1 : Nat) : Int) ∧ wrap64 ((k : Int) + 1) = ((k + 1 : Nat) : Int) ∧ (0 : Int) ≤ ((k + 1 : Nat) : Int) ∧ ((k + 1 : Nat) : Int) ≤ ((n + 1 : Nat) : Int) ∧ (k : Int) ≤ ((n + 1 : Nat) : Int) ∧ (0 : Int) ≤ (k : Int) ∧ ¬ c6 = k ∧ ¬ c6 = k + 1 ∧ (0 : Int) ≤ (k : Int) + 1 ∧ k ≤ n ∧ k ≤ n + 1 ∧ (k : Int) ≤ (n : Int) + 1 := by
 have h : wrap64 ((k : Int) + 1) = ((k + 1 : Nat) : Int) := Eq.trans (w64 (by omega) (by omega)) (by omega);exact ⟨by rw [i64_w];exact h,h,by omega,by omega,by omega,by omega,by omega,by omega,by omega,by omega,by omega,by omega⟩
theorem Jl {k n c6 : Nat} (hk : k ≤ n) (hn : n ≤ 100000) (hc : n + 1 ≤ c6) : IntKind.i64.wrap ((k : Int) + 1) = ((k + 1 : Nat) : Int) ∧ wrap64 ((k : Int) + 1) = ((k + 1 : Nat) : Int) ∧ (0 : Int) ≤ ((k + 1 : Nat) : Int) ∧ ((k + 1 : Nat) : Int) ≤ ((n + 1 : Nat) : Int) ∧ (k : Int) ≤ ((n + 1 : Nat) : Int) ∧ (0 : Int) ≤ (k : Int) ∧ ¬ c6 = k ∧ (0 : Int) ≤ (k : Int) + 1 ∧ k ≤ n ∧ k ≤ n + 1 ∧ (k : Int) ≤ (n : Int) + 1 := by
 have h : wrap64 ((k : Int) + 1) = ((k + 1 : Nat) : Int) := Eq.trans (w64 (by omega) (by omega)) (by omega);exact ⟨by rw [i64_w];exact h,h,by omega,by omega,by omega,by omega,by omega,by omega,by omega,by omega,by omega⟩
theorem Jb (o : List Int) (k c6 : Nat) (rest : List Value) (hk : k ≤ o.length) (hl : (ints o ++ [Value.int .i64 0] ++ rest).length = c6) (hc : o.length + 1 ≤ c6) :
 (ints (o.drop k)).length = Nat.min (o.length + 1 - k) (o.length - k) ∧ k + 1 + (ints (o.drop k)).length ≤ (ints o ++ [Value.int .i64 0] ++ rest).length := by
 have e : (ints (o.drop k)).length = o.length - k := by simp
 rw [e,hl];exact ⟨(Nat.min_eq_right (by omega)).symm,by omega⟩
theorem JB (o : List Int) (k : Nat) (z : Int) (h : k ≤ o.length) : (o.take k ++ z :: o.drop k).length = o.length + 1 := by simp;omega
theorem YF (kk k n L : Nat) (h : k ≤ n) (hk : kk < L) : (0 : Int) ≤ (kk : Int) ∧ (kk : Int) < (L : Int) ∧ (k : Int) < (n : Int) + 1 ∧ k < n + 1 ∧ kk + 1 ≤ L ∧ k ≤ n ∧ (k : Int) ≤ (n : Int) := ⟨by omega,by omega,by omega,by omega,by omega,h,by omega⟩
theorem Yn {W : World} {g : Nat} {o : List Int} {rest : List Value} (hg : W.heap[g]? = some (.cells (ints o ++ [Value.int .i64 0] ++ rest).toArray 3 (0,0))) (k : Nat) : ∀ j v,(ints (o.drop k))[j]? = some v → W.cell? ((⟨g,k,none⟩ : Addr).add j) = some v := by
 intro j v h
 have hz : (⟨g,k,none⟩ : Addr).add j = ⟨g,k + j,none⟩ := by unfold Addr.add;split <;> simp_all
 rw [hz]
 have h1 : (ints o)[k + j]? = some v := by
  have e : ints (o.drop k) = (ints o).drop k := by simp [ints,List.map_drop]
  rw [e,List.getElem?_drop] at h;exact h
 have h2 := (List.getElem?_eq_some_iff.1 h1).1;refine Blk.cell (W := W) (b := g) (cs := (ints o ++ [Value.int .i64 0] ++ rest).toArray) (t := 3) hg (k + j) ?_;rw [List.getElem?_toArray,List.append_assoc,List.getElem?_append_left h2];exact h1
theorem YK (l : List Int) : ∀ v ∈ ints l,v.oneCell' = true := by
 intro v hv;simp only [ints,List.mem_map] at hv;obtain ⟨x,_,rfl⟩ := hv;rfl
set_option maxRecDepth 100000 in
set_option maxHeartbeats 8000000 in
theorem cuts_calls (A : Option Addr) (c : Nat) (l : List Int) (w : World) (hl : l.length ≤ 100000) (hr : (Kd.int .i64).C w A l.length l) :
 Calls Try.prog 112 #[.slice A l.length c] w fun e w' => ∃ v,e = .returned v ∧ w'.ownsRow w.heap.size 3 1 v (cutsL l).length (ints (cutsL l)) ∧ Below w.heap.size w w' := by
 have HR := Zb.mk hr;clear hr;obtain ⟨i0,hi,hz0,hz1,hz2⟩ := info_parts info3
 go_enter Try.func112,Try.ntmps112
 go_wp2
 go_loopg [3,4,5] l.length (fun gg s3 s4 s5 wr => ∃ (kk : Nat) (B : Option Addr) (cB : Nat),kk ≤ l.length ∧ l.length - kk ≤ gg ∧ s4 = .int .i64 kk ∧ s3 = .slice B (cutsL (l.take kk)).length cB ∧ Zb (Below w.heap.size w wr) ∧ Zb (wr.ownsRow w.heap.size 3 1 (.slice B (cutsL (l.take kk)).length cB) (cutsL (l.take kk)).length (ints (cutsL (l.take kk)))))
 case atStart => exact ⟨0,none,0,Nat.zero_le _,by omega,rfl,rfl,⟨Below.refl _ w⟩,⟨World.ownsRow_nil _ _ _ _⟩⟩
 case round =>
  obtain ⟨kk,B,cB,hkk,hgg,rfl,rfl,BW,HO⟩ := hrel
  by_cases hlt : kk < l.length
  · have hltz : (kk : Int) < (l.length : Int) := by omega
    obtain ⟨ad,eA,hx0⟩ := Kd.XW (Kd.Z5 HR.out BW.out) (kk : Int) (by omega) (by omega)
    cases eA
    simp only [Int.toNat_natCast] at hx0;have hel := rd_getElem l kk hlt;generalize hy : rd l (kk : Int) = z at hx0 hel;have HZ := Zb.mk hy;clear hy;have HT := Zb.mk (cutsL_take l kk z hel);have HMS := Zb.mk (show l.length - (kk + 1) < gk by omega)
    have hol : (cutsL (l.take kk)).length ≤ 100000 := by have := Yo (l.take kk);rw [List.length_take] at this;omega
    generalize hzs : cutsL (l.take kk) = o at HO HT hol ⊢;clear hzs hel
    go_wp2
    go_loopg [5] (o.length + 1) (fun gg s5 wr => ∃ k : Nat,k ≤ placeC o z ∧ o.length + 1 - k ≤ gg ∧ s5 = .int .i64 k ∧ Zb (Below w.heap.size w wr) ∧ Zb (wr.ownsRow w.heap.size 3 1 (.slice B o.length cB) o.length (ints o)))
    case atStart => exact ⟨0,Nat.zero_le _,by omega,rfl,BW,HO⟩
    case round =>
     clear hx0 BW HO;obtain ⟨k,hk,hg2,rfl,BW,HO⟩ := hrel;have hkl : placeC o z ≤ o.length := Js z o;obtain ⟨ad',eA',hx0⟩ := Kd.XW (Kd.Z5 HR.out BW.out) (kk : Int) (by omega) (by omega)
     cases eA'
     rw [HZ.out] at hx0;simp only [Int.toNat_natCast] at hx0
     by_cases hp : k < placeC o z
     · have hko : k < o.length := by omega
       have hkoz : (k : Int) < (o.length : Int) := by omega
       obtain ⟨g,rfl,hge,hc⟩ := Q3 HO.out k hko;have hu : o.getD k 0 < z := J1 z o k _ hp (by rw [List.getD_eq_getElem?_getD,List.getElem?_eq_getElem hko];rfl);generalize o.getD k 0 = u at hc hu;have hub : decide (u < z) = true := decide_eq_true hu
       have k0 : (0 : Int) ≤ (k : Int) := by omega
       go_wp2
       go_quiet (fail)
       go_wp2
       go_roundg (o.length + 1 - (k + 1))
       case measure => omega
       case rel => exact ⟨k + 1,by omega,by omega,by go_num,⟨Za BW.out _⟩,⟨HO.out⟩⟩
     · have HKE := Zb.mk (show k = placeC o z by omega)
       have hkle : k ≤ o.length := by omega
       clear hp hk
       by_cases hko : k < o.length
       · have hkoz : (k : Int) < (o.length : Int) := by omega
         obtain ⟨g,rfl,hge,hc⟩ := Q3 HO.out k hko
         have hel : o[k]? = some (o.getD k 0) := by rw [List.getD_eq_getElem?_getD,List.getElem?_eq_getElem hko];rfl
         have hu : ¬ o.getD k 0 < z := Jo z o _ (by rw [← HKE.out];exact hel);generalize o.getD k 0 = u at hc hu hel;have HEL := Zb.mk hel;clear hel;have hub : decide (u < z) = false := decide_eq_false hu
         have k0 : (0 : Int) ≤ (k : Int) := by omega
         by_cases hz : u = z
         · have hzb : (u != z) = false := bne_eq_false_iff_eq.mpr hz
           have hkn : ((k : Int) == (o.length : Int)) = false := beq_eq_false_iff_ne.mpr (by omega);have HS := Zb.mk (show cutsL (l.take (kk + 1)) = o by rw [HT.out,Qu,← HKE.out,HEL.out,if_pos (by rw [hz])]);clear hz
           go_wp2
           go_quiet (fail)
           go_wp2
           go_quiet (fail)
           go_wp2
           go_roundg (l.length - (kk + 1))
           case measure => omega
           case rel => exact ⟨kk + 1,_,cB,by omega,by omega,by go_num,by rw [HS.out],⟨Za BW.out _⟩,⟨by rw [HS.out];exact HO.out⟩⟩
         · have hzb : (u != z) = true := bne_iff_ne.mpr hz
           have hkn : ((k : Int) == (o.length : Int)) = false := beq_eq_false_iff_ne.mpr (by omega)
           go_wp2
           go_quiet (fail)
           go_wp2
           go_quiet (fail)
           go_wp2_with (first | (at_builtin;refine wpList_append_own _ rfl (.tmp 44) (.tmp 45) 32 rfl w.heap.size 3 i0 (.int .i64 0) 1 8 Try.underlying32 hi hz0 hz1 hz2 rfl (by decide) (.slice (some ⟨g,0,none⟩) o.length cB) o.length (ints o) rfl ?own ⟨wr.heap.size,0,none⟩ 1 1 [.int .i64 0] rfl rfl ?c1 ?c2 ?c3 ?c4 ?c5 ?_;(case own => exact (World.ownsRow.alloc (w := wr.drewN _) HO.out _));(case c1 => exact YG _ _ _);(case c2 => intro u hu;simp only [List.mem_cons,List.not_mem_nil,or_false] at hu;rcases hu with rfl;rfl);(case c3 => unfold maxLen;omega);(case c4 => omega);(case c5 => have := BW.out.size;simp;omega);intro v' w6 hown hgr _;have HG6 := Zb.mk hgr;obtain ⟨B6,c6,rfl⟩ := Qc hown;obtain ⟨g6,rest,rfl,hge6,_,hnc6,hm6,hg6,hl6⟩ := Jf hown;clear hown hgr))
           have HB6 := Zb.mk (show Below w.heap.size w w6 from X3 ((Za BW.out _).alloc BW.out.size _) (Nat.le_trans BW.out.size (by rw [World.size_alloc];exact Nat.le_succ _)) HG6.out (fun kk hk => (Xm HO.out hk).1));have HSRC := Zb.mk (Yn hg6 k);have HONE := Zb.mk (YK (o.drop k));have HG := Zb.mk hg6;have HL := Zb.mk hl6;have HN := Zb.mk (Jb o k c6 rest (Nat.le_of_lt hko) hl6 hnc6);clear hg6 hl6;obtain ⟨j0,j1,j2,j3,j4,k0,j5,j6,j7,j8,j9,ja⟩ := cut_nums hko hol hnc6;refine wp_region_any (by kernel_rfl) ?_;refine wpAny_take (i := 0) (v := ?_) rfl (by kernel_rfl) (by kernel_rfl) (by kernel_rfl) (fun _ _ _ h => h) (Or.inl ⟨by rfl,?_⟩) ?_;rotate_left
           · intro w
             first | (go_simp;done) | (go_simp;with_reducible rfl)
           refine wpAny_take (i := 1) (v := ?_) rfl (by kernel_rfl) (by kernel_rfl) (by kernel_rfl) (fun _ _ _ h => h) (Or.inl ⟨by rfl,?_⟩) ?_;rotate_left
           · intro w
             first | (go_simp;done) | (go_simp;with_reducible rfl)
           refine wpAny_take (i := 2) (v := ?_) rfl (by kernel_rfl) (by kernel_rfl) (by kernel_rfl) (fun _ _ _ h => h) (Or.inl ⟨by rfl,?_⟩) ?_;rotate_left
           · intro w
             first | (go_simp;done) | (go_simp;with_reducible rfl)
           refine wpAny_take (i := 3) (v := ?_) rfl (by kernel_rfl) (by kernel_rfl) (by kernel_rfl) (fun _ _ _ h => h) (Or.inl ⟨by rfl,?_⟩) ?_;rotate_left
           · intro w
             first | (go_simp;done) | (go_simp;with_reducible rfl)
           refine wpAny_take (i := 4) (v := ?_) rfl (by kernel_rfl) (by kernel_rfl) (by kernel_rfl) (fun _ _ _ h => h) (Or.inl ⟨by rfl,?_⟩) ?_;rotate_left
           · intro w
             first | (go_simp;done) | (go_simp;with_reducible rfl)
           refine wpAny_take (i := 5) (v := ?_) rfl (by kernel_rfl) (by kernel_rfl) (by kernel_rfl) (fun _ _ _ h => h) (Or.inl ⟨by rfl,?_⟩) ?_;rotate_left
           · intro w
             first | (go_simp;done) | (go_simp;with_reducible rfl)
           refine wpAny_take (i := 6) (v := ?_) rfl (by kernel_rfl) (by kernel_rfl) (by kernel_rfl) (fun _ _ _ h => h) (Or.inl ⟨by rfl,?_⟩) ?_;rotate_left
           · intro w
             first | (go_simp;done) | (go_simp;with_reducible rfl)
           refine wpAny_ready (rs := [7]) (by kernel_rfl) (by simp) ?_;refine AllReady.cons rfl (fun K hK => ?_) AllReady.nil;refine step_copy_splice rfl (.tmp 50) (.tmp 53) 32 32 rfl 3 Try.underlying32 (by kernel_rfl) (some ⟨g6,k + 1,none⟩) (some ⟨g6,k,none⟩) (o.length - k) (c6 - (k + 1)) (o.length + 1 - k) (c6 - k) (by simp [Act.eval,Act.put]) (by simp [Act.eval,Act.put]) g6 (k + 1) (ints o ++ [Value.int .i64 0] ++ rest) 3 HG.out (ints (o.drop k)) HN.out.1 (fun _ => ⟨rfl,_,rfl,HSRC.out⟩) HN.out.2 HONE.out w.heap.size w (Zd HB6.out) hge6 ?_;intro w7 hg7 hb7;refine hK _ _ ?_;clear hK K;refine wpAny_done (by kernel_rfl) ?_ _;have HINS := Zb.mk (show cutsL (l.take (kk + 1)) = o.take k ++ z :: o.drop k by rw [HT.out,Qu,← HKE.out,if_neg (by rw [HEL.out];intro h;exact hz (Option.some.inj h))]);obtain ⟨⟨vk,dk⟩,fk,hown7⟩ := YI (base := w.heap.size) (z := z) hge6 (Nat.le_of_lt hko) hnc6 hm6 HL.out hg7;obtain ⟨p0,pL,p1,p2,p3,p4,p5⟩ := YF kk k o.length l.length (Nat.le_of_lt hko) hlt;obtain ⟨ad7,eA7,hx7⟩ := Kd.XW (Kd.Z5 HR.out hb7) (kk : Int) p0 pL
           cases eA7
           rw [HZ.out] at hx7;simp only [Int.toNat_natCast] at hx7;have HOW := Zb.mk hown7;have HB7 := Zb.mk hb7;have HLE := Zb.mk (JB o k z (Nat.le_of_lt hko));clear hg7 hb7 hown7 HG HL HN HSRC HONE HB6
           try simp only [Act.put,V9,VA,VB]
           go_wp2
           go_roundg (l.length - (kk + 1))
           case measure => exact HMS.out
           case rel => exact ⟨kk + 1,some ⟨g6,0,none⟩,c6,p3,Nat.le_refl _,by go_num,by rw [HINS.out,HLE.out],⟨HB7.out.setCell (p := ⟨g6,k,none⟩) hge6 _⟩,⟨by rw [HINS.out,HLE.out];exact HOW.out⟩⟩
       · have HKL := Zb.mk (show k = o.length by omega)
         have q1 : decide ((k : Int) < (o.length : Int)) = false := decide_eq_false (by omega)
         have q1' : ¬ (k : Int) < (o.length : Int) := by omega
         have q2 : ((k : Int) == (o.length : Int)) = true := beq_iff_eq.mpr (by omega);have q3 : decide (k < o.length) = false := decide_eq_false (by omega);have q4 : (k == o.length) = true := beq_iff_eq.mpr (by omega)
         have q5 : ¬ k < o.length := by omega
         have k00 : (0 : Int) ≤ (k : Int) := by omega
         clear hko hkl hg2 hkle
         go_wp2
         go_quiet (fail)
         go_wp2
         go_quiet (fail)
         go_wp2_with (first | (at_builtin;refine wpList_append_own _ rfl (.tmp 44) (.tmp 45) 32 rfl w.heap.size 3 i0 (.int .i64 0) 1 8 Try.underlying32 hi hz0 hz1 hz2 rfl (by decide) (.slice B o.length cB) o.length (ints o) rfl ?own ⟨wr.heap.size,0,none⟩ 1 1 [.int .i64 0] rfl rfl ?c1 ?c2 ?c3 ?c4 ?c5 ?_;(case own => exact (World.ownsRow.alloc (w := wr.drewN _) HO.out _));(case c1 => exact YG _ _ _);(case c2 => intro u hu;simp only [List.mem_cons,List.not_mem_nil,or_false] at hu;rcases hu with rfl;rfl);(case c3 => unfold maxLen;omega);(case c4 => omega);(case c5 => have := BW.out.size;simp;omega);intro v' w6 hown hgr _;have HG6 := Zb.mk hgr;obtain ⟨B6,c6,rfl⟩ := Qc hown;obtain ⟨g6,rest,rfl,hge6,_,hnc6,hm6,hg6,hl6⟩ := Jf hown;clear hown hgr))
         by_cases hcc : c6 = k + 1
         · have j6 : (c6 = k + 1) = True := eq_true hcc
           clear hcc;have HB6 := Zb.mk (show Below w.heap.size w w6 from X3 ((Za BW.out _).alloc BW.out.size _) (Nat.le_trans BW.out.size (by rw [World.size_alloc];exact Nat.le_succ _)) HG6.out (fun kk hk => (Xm HO.out hk).1));have HSRC := Zb.mk (Yn hg6 k);have HONE := Zb.mk (YK (o.drop k));have HG := Zb.mk hg6;have HL := Zb.mk hl6;have HN := Zb.mk (Jb o k c6 rest (Nat.le_of_eq HKL.out) hl6 hnc6);clear hg6 hl6;obtain ⟨j0,j1,j2,j3,j4,k0,j5,j7,j8,j9,ja⟩ := Jl (Nat.le_of_eq HKL.out) hol hnc6;have HZ0 := Zb.mk (show (ints (o.drop k)).length = 0 by rw [List.drop_eq_nil_of_le (Nat.le_of_eq HKL.out.symm)];rfl);refine wp_region_any (by kernel_rfl) ?_;refine wpAny_take (i := 0) (v := ?_) rfl (by kernel_rfl) (by kernel_rfl) (by kernel_rfl) (fun _ _ _ h => h) (Or.inl ⟨by rfl,?_⟩) ?_;rotate_left
           · intro w
             first | (go_simp;done) | (go_simp;with_reducible rfl)
           refine wpAny_take (i := 1) (v := ?_) rfl (by kernel_rfl) (by kernel_rfl) (by kernel_rfl) (fun _ _ _ h => h) (Or.inl ⟨by rfl,?_⟩) ?_;rotate_left
           · intro w
             first | (go_simp;done) | (go_simp;with_reducible rfl)
           refine wpAny_take (i := 2) (v := ?_) rfl (by kernel_rfl) (by kernel_rfl) (by kernel_rfl) (fun _ _ _ h => h) (Or.inl ⟨by rfl,?_⟩) ?_;rotate_left
           · intro w
             first | (go_simp;done) | (go_simp;with_reducible rfl)
           refine wpAny_take (i := 3) (v := ?_) rfl (by kernel_rfl) (by kernel_rfl) (by kernel_rfl) (fun _ _ _ h => h) (Or.inl ⟨by rfl,?_⟩) ?_;rotate_left
           · intro w
             first | (go_simp;done) | (go_simp;with_reducible rfl)
           refine wpAny_take (i := 4) (v := ?_) rfl (by kernel_rfl) (by kernel_rfl) (by kernel_rfl) (fun _ _ _ h => h) (Or.inl ⟨by rfl,?_⟩) ?_;rotate_left
           · intro w
             first | (go_simp;done) | (go_simp;with_reducible rfl)
           refine wpAny_take (i := 5) (v := ?_) rfl (by kernel_rfl) (by kernel_rfl) (by kernel_rfl) (fun _ _ _ h => h) (Or.inl ⟨by rfl,?_⟩) ?_;rotate_left
           · intro w
             first | (go_simp;done) | (go_simp;with_reducible rfl)
           refine wpAny_take (i := 6) (v := ?_) rfl (by kernel_rfl) (by kernel_rfl) (by kernel_rfl) (fun _ _ _ h => h) (Or.inl ⟨by rfl,?_⟩) ?_;rotate_left
           · intro w
             first | (go_simp;done) | (go_simp;with_reducible rfl)
           refine wpAny_ready (rs := [7]) (by kernel_rfl) (by simp) ?_;refine AllReady.cons rfl (fun K hK => ?_) AllReady.nil;refine step_copy_splice rfl (.tmp 50) (.tmp 53) 32 32 rfl 3 Try.underlying32 (by kernel_rfl) (some ⟨g6,0,none⟩) (some ⟨g6,k,none⟩) (o.length - k) (c6 - (k + 1)) (o.length + 1 - k) (c6 - k) (by simp [Act.eval,Act.put]) (by simp [Act.eval,Act.put]) g6 (k + 1) (ints o ++ [Value.int .i64 0] ++ rest) 3 HG.out (ints (o.drop k)) HN.out.1 (fun h => absurd h (by rw [HZ0.out];exact Nat.lt_irrefl 0)) HN.out.2 HONE.out w.heap.size w (Zd HB6.out) hge6 ?_;intro w7 hg7 hb7;refine hK _ _ ?_;clear hK K;refine wpAny_done (by kernel_rfl) ?_ _;have HINS := Zb.mk (show cutsL (l.take (kk + 1)) = o.take k ++ z :: o.drop k by rw [HT.out,Qu,← HKE.out,if_neg (by rw [List.getElem?_eq_none (Nat.le_of_eq HKL.out.symm)];exact fun h => by cases h)]);obtain ⟨⟨vk,dk⟩,fk,hown7⟩ := YI (base := w.heap.size) (z := z) hge6 (Nat.le_of_eq HKL.out) hnc6 hm6 HL.out hg7;obtain ⟨p0,pL,p1,p2,p3,p4,p5⟩ := YF kk k o.length l.length (Nat.le_of_eq HKL.out) hlt;obtain ⟨ad7,eA7,hx7⟩ := Kd.XW (Kd.Z5 HR.out hb7) (kk : Int) p0 pL
           cases eA7
           rw [HZ.out] at hx7;simp only [Int.toNat_natCast] at hx7;have HOW := Zb.mk hown7;have HB7 := Zb.mk hb7;have HLE := Zb.mk (JB o k z (Nat.le_of_eq HKL.out));clear hg7 hb7 hown7 HG HL HN HSRC HONE HB6
           try simp only [Act.put,V9,VA,VB]
           go_wp2
           go_roundg (l.length - (kk + 1))
           case measure => exact HMS.out
           case rel => exact ⟨kk + 1,some ⟨g6,0,none⟩,c6,p3,Nat.le_refl _,by go_num,by rw [HINS.out,HLE.out],⟨HB7.out.setCell (p := ⟨g6,k,none⟩) hge6 _⟩,⟨by rw [HINS.out,HLE.out];exact HOW.out⟩⟩
         · have j6 : ¬ c6 = k + 1 := hcc
           clear hcc;have HB6 := Zb.mk (show Below w.heap.size w w6 from X3 ((Za BW.out _).alloc BW.out.size _) (Nat.le_trans BW.out.size (by rw [World.size_alloc];exact Nat.le_succ _)) HG6.out (fun kk hk => (Xm HO.out hk).1));have HSRC := Zb.mk (Yn hg6 k);have HONE := Zb.mk (YK (o.drop k));have HG := Zb.mk hg6;have HL := Zb.mk hl6;have HN := Zb.mk (Jb o k c6 rest (Nat.le_of_eq HKL.out) hl6 hnc6);clear hg6 hl6;obtain ⟨j0,j1,j2,j3,j4,k0,j5,j7,j8,j9,ja⟩ := Jl (Nat.le_of_eq HKL.out) hol hnc6;have HZ0 := Zb.mk (show (ints (o.drop k)).length = 0 by rw [List.drop_eq_nil_of_le (Nat.le_of_eq HKL.out.symm)];rfl);refine wp_region_any (by kernel_rfl) ?_;refine wpAny_take (i := 0) (v := ?_) rfl (by kernel_rfl) (by kernel_rfl) (by kernel_rfl) (fun _ _ _ h => h) (Or.inl ⟨by rfl,?_⟩) ?_;rotate_left
           · intro w
             first | (go_simp;done) | (go_simp;with_reducible rfl)
           refine wpAny_take (i := 1) (v := ?_) rfl (by kernel_rfl) (by kernel_rfl) (by kernel_rfl) (fun _ _ _ h => h) (Or.inl ⟨by rfl,?_⟩) ?_;rotate_left
           · intro w
             first | (go_simp;done) | (go_simp;with_reducible rfl)
           refine wpAny_take (i := 2) (v := ?_) rfl (by kernel_rfl) (by kernel_rfl) (by kernel_rfl) (fun _ _ _ h => h) (Or.inl ⟨by rfl,?_⟩) ?_;rotate_left
           · intro w
             first | (go_simp;done) | (go_simp;with_reducible rfl)
           refine wpAny_take (i := 3) (v := ?_) rfl (by kernel_rfl) (by kernel_rfl) (by kernel_rfl) (fun _ _ _ h => h) (Or.inl ⟨by rfl,?_⟩) ?_;rotate_left
           · intro w
             first | (go_simp;done) | (go_simp;with_reducible rfl)
           refine wpAny_take (i := 4) (v := ?_) rfl (by kernel_rfl) (by kernel_rfl) (by kernel_rfl) (fun _ _ _ h => h) (Or.inl ⟨by rfl,?_⟩) ?_;rotate_left
           · intro w
             first | (go_simp;done) | (go_simp;with_reducible rfl)
           refine wpAny_take (i := 5) (v := ?_) rfl (by kernel_rfl) (by kernel_rfl) (by kernel_rfl) (fun _ _ _ h => h) (Or.inl ⟨by rfl,?_⟩) ?_;rotate_left
           · intro w
             first | (go_simp;done) | (go_simp;with_reducible rfl)
           refine wpAny_take (i := 6) (v := ?_) rfl (by kernel_rfl) (by kernel_rfl) (by kernel_rfl) (fun _ _ _ h => h) (Or.inl ⟨by rfl,?_⟩) ?_;rotate_left
           · intro w
             first | (go_simp;done) | (go_simp;with_reducible rfl)
           refine wpAny_ready (rs := [7]) (by kernel_rfl) (by simp) ?_;refine AllReady.cons rfl (fun K hK => ?_) AllReady.nil;refine step_copy_splice rfl (.tmp 50) (.tmp 53) 32 32 rfl 3 Try.underlying32 (by kernel_rfl) (some ⟨g6,k + 1,none⟩) (some ⟨g6,k,none⟩) (o.length - k) (c6 - (k + 1)) (o.length + 1 - k) (c6 - k) (by simp [Act.eval,Act.put]) (by simp [Act.eval,Act.put]) g6 (k + 1) (ints o ++ [Value.int .i64 0] ++ rest) 3 HG.out (ints (o.drop k)) HN.out.1 (fun h => absurd h (by rw [HZ0.out];exact Nat.lt_irrefl 0)) HN.out.2 HONE.out w.heap.size w (Zd HB6.out) hge6 ?_;intro w7 hg7 hb7;refine hK _ _ ?_;clear hK K;refine wpAny_done (by kernel_rfl) ?_ _;have HINS := Zb.mk (show cutsL (l.take (kk + 1)) = o.take k ++ z :: o.drop k by rw [HT.out,Qu,← HKE.out,if_neg (by rw [List.getElem?_eq_none (Nat.le_of_eq HKL.out.symm)];exact fun h => by cases h)]);obtain ⟨⟨vk,dk⟩,fk,hown7⟩ := YI (base := w.heap.size) (z := z) hge6 (Nat.le_of_eq HKL.out) hnc6 hm6 HL.out hg7;obtain ⟨p0,pL,p1,p2,p3,p4,p5⟩ := YF kk k o.length l.length (Nat.le_of_eq HKL.out) hlt;obtain ⟨ad7,eA7,hx7⟩ := Kd.XW (Kd.Z5 HR.out hb7) (kk : Int) p0 pL
           cases eA7
           rw [HZ.out] at hx7;simp only [Int.toNat_natCast] at hx7;have HOW := Zb.mk hown7;have HB7 := Zb.mk hb7;have HLE := Zb.mk (JB o k z (Nat.le_of_eq HKL.out));clear hg7 hb7 hown7 HG HL HN HSRC HONE HB6
           try simp only [Act.put,V9,VA,VB]
           go_wp2
           go_roundg (l.length - (kk + 1))
           case measure => exact HMS.out
           case rel => exact ⟨kk + 1,some ⟨g6,0,none⟩,c6,p3,Nat.le_refl _,by go_num,by rw [HINS.out,HLE.out],⟨HB7.out.setCell (p := ⟨g6,k,none⟩) hge6 _⟩,⟨by rw [HINS.out,HLE.out];exact HOW.out⟩⟩
  · have hltz : ¬ (kk : Int) < (l.length : Int) := by omega
    obtain rfl : kk = l.length := by omega
    rw [List.take_length] at HO ⊢
    go_wp2
    go_ret;exact ⟨_,rfl,HO.out,BW.out⟩
end Go.Proofs.Ythbajahklnpkcaa.PA

namespace Go.Proofs.Ythbajahklnpkcaa.PA
open Go.RowKit Go.Shelf Go.Proofs.YthbajahklnpkcaaW.PrintWords Go.Proofs.YthbajahklnpkcaaW.PrintLast Go.Proofs.YthbajahklnpkcaaW.PrintMore
set_option linter.unusedVariables false
theorem Jy (W : World) (base : Nat) (ok : Nat → Prop) : ∀ l : List Int,Reps ((Kd.int .i64).M W base ok) 1 l (ints l)
 | [] => Reps.none _ _
 | x :: l => Reps.one (show (Kd.int .i64).M W base ok x [.int .i64 x] from rfl) (Jy W base ok l)
theorem ints_R {W : World} {base : Nat} {v : Value} {l : List Int} (h : W.ownsRow base 3 1 v l.length (ints l)) : Kd.R (Kd.int .i64) 3 W base (fun _ => True) v l := ⟨fun _ _ => trivial,ints l,h,Jy _ _ _ l⟩
def Xb.f (l0 : List Int) : Option (List Int) := if l0.length ≤ 100000 then some (cutsL l0) else none
theorem Xb.calls (A0 : Option Addr) (c0 : Nat) (l0 : List Int) (r : List Int) (w : World) (hr0 : (Kd.int .i64).C w A0 l0.length l0) (hc0 : l0.length ≤ c0) (h : Xb.f l0 = some r) :
 Calls Try.prog 112 #[.slice A0 l0.length c0] w fun e w' => ∃ v0_ : Value,e = .returned v0_ ∧ Kd.R (Kd.int .i64) 3 w' w.heap.size (fun _ => True) v0_ r ∧ Below w.heap.size w w' := by
 unfold Xb.f at h;split at h
 case isTrue hl =>
  cases h
  exact (cuts_calls A0 c0 l0 w hl hr0).mono (fun e w' ⟨v,he,ho,hb⟩ => ⟨v,he,ints_R ho,hb⟩)
 case isFalse => cases h
end Go.Proofs.Ythbajahklnpkcaa.PA

namespace Go.Proofs.Ythbajahklnpkcaa.PA
open Go.RowKit Go.Proofs.YthbajahklnpkcaaW.PrintWords Go.Proofs.YthbajahklnpkcaaW.PrintLast Go.Proofs.YthbajahklnpkcaaW.PrintMore
attribute [local go_sem] ZK ZL ZR ZU ZD ZC ZM ZN
set_option linter.unusedVariables false
set_option linter.unusedSimpArgs false
end Go.Proofs.Ythbajahklnpkcaa.PA
