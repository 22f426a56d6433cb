/- Written by wip/pr2, a program of this session. -/
import Derived.Test.YthigelphmjepaaaQFnExactTidyx0
import Derived.Test.YthigelphmjepaaaQFnExactTidyx1
import Derived.Test.YthigelphmjepaaaWFnExactTidy
namespace Go.Proofs.Ythigelphmjepaaa.QFnExactTidy
open Go.RowKit Go.Proofs.YthigelphmjepaaaW.PrintWords Go.Proofs.YthigelphmjepaaaW.PrintLast Go.Proofs.YthigelphmjepaaaW.PrintMore Go.Proofs.YthigelphmjepaaaW.Mac
attribute [local go_sem] max2_int min2_int max_two min_two max_three min_three max_four min_four   -- for this text's walks alone
set_option linter.unusedVariables false
set_option linter.unusedSimpArgs false
set_option maxHeartbeats 8000000
set_option maxRecDepth 100000

/-! ### laws_szNodeS: function 109 -/
/-! ### laws_szNode: function 73 -/
theorem laws_szNodeS.step (k : Nat) (ih109 : ∀ m_, m_ < k → ∀ (A0 : Option Addr) (c0 : Nat) (l0 : List (S61)) (a1 : Int) (r : Int) (w : World) (hr0 : Kd.C k61 w A0 l0.length l0) (hc0 : l0.length ≤ c0) (h : laws_szNodeS.f m_ l0 a1 = some r),
  Calls Try.prog 109 #[.slice A0 l0.length c0, .int .i64 a1] w fun e w' => e = .returned (.int .i64 r) ∧ Below w.heap.size w w') (ih73 : ∀ m_, m_ < k → ∀ (a0_0 : Int) (a0_1 : Int) (a0_2 : ByteArray) (A0_3 : Option Addr) (c0_3 : Nat) (l0_3 : List (S61)) (a1 : Int) (r : Int) (w : World) (hr0_3 : Kd.C k61 w A0_3 l0_3.length l0_3) (hc0_3 : l0_3.length ≤ c0_3) (h : laws_szNode.f m_ a0_0 a0_1 a0_2 l0_3 a1 = some r),
  Calls Try.prog 73 #[.agg #[.int .i64 a0_0, .int .i64 a0_1, .string a0_2, .slice A0_3 l0_3.length c0_3], .int .i64 a1] w fun e w' => e = .returned (.int .i64 r) ∧ Below w.heap.size w w') : ∀ (A0 : Option Addr) (c0 : Nat) (l0 : List (S61)) (a1 : Int) (r : Int) (w : World) (hr0 : Kd.C k61 w A0 l0.length l0) (hc0 : l0.length ≤ c0) (h : laws_szNodeS.f k l0 a1 = some r),
  Calls Try.prog 109 #[.slice A0 l0.length c0, .int .i64 a1] w fun e w' => e = .returned (.int .i64 r) ∧ Below w.heap.size w w' := by
 intro A0 c0 l0 a1 r w hr0 hc0 h
 cases k with
 | zero => exact absurd h (by simp [laws_szNodeS.f])
 | succ k =>
 rw [laws_szNodeS.f] at h
 have hu61 := Try.underlying61
 have HR0 := Aside0.mk hr0
 have HC0 := Aside0.mk hc0
 clear hr0 hc0
 have HB := Aside0.mk (Below.refl w.heap.size w)
 have H := h
 clear h
 replace H := zI H; obtain ⟨c3, H⟩ | ⟨c3, H⟩ := H
 ·have c3b0 := decide_eq_true c3
  clear c3
  obtain rfl := Option.some.inj H
  go_enter Try.func109, Try.ntmps109
  go_wp2
  go_ret
  exact ⟨zE, zB⟩
 ·have c3b0 := decide_eq_false c3
  clear c3
  have H' := Aside0.mk H
  clear H
  go_enter Try.func109, Try.ntmps109
  go_wp2
  go_loopg [1, 5] k (fun kq v1 v5 w' => ∃ (x1_1 : Int) (x5_1 : Int), v1 = .int .i64 x1_1 ∧ v5 = .int .i64 x5_1 ∧ Aside0 (laws_szNodeS.l0 kq l0 x1_1 x5_1 = some r) ∧ Aside0 (kq ≤ k) ∧ Aside0 (Below w.heap.size w w'))
  case atStart => exact ⟨(wrap64 (a1 - (l0.length : Int))), (0), zS, zS, H', ⟨Nat.le_refl _⟩, ⟨zB⟩⟩
  case round =>
   clear H'
   (try clear c3); (try clear c3b0)
   obtain ⟨x1_1, x5_1, rfl, rfl, HA, HK1, HB⟩ := hrel
   cases gk with
   | zero => exact absurd HA.out (by simp [laws_szNodeS.l0])
   | succ k1 =>
    have H := HA.out
    clear HA
    simp only [laws_szNodeS.l0] at H
    replace H := zI H; obtain ⟨c4, H⟩ | ⟨c4, H⟩ := H
    ·have c4b0 := decide_eq_true c4
     clear c4
     replace H := zI H; obtain ⟨c5, H⟩ | ⟨c5, H⟩ := H
     ·have c5b0 := decide_eq_true c5
      clear c5
      replace H := zO H; obtain ⟨t102, A6, H⟩ := H
      replace H := zI H; obtain ⟨c7, H⟩ | ⟨c7, H⟩ := H
      ·have c7b0 := decide_eq_true c7
       clear c7
       obtain rfl := Option.some.inj H
       have p101 : 0 ≤ (x5_1 : Int) := zW
       have q101 : x5_1 < (l0.length : Int) := zW
       obtain ⟨ad101, A101_3, c101_3, e101, hx101_0, hx101_1, hx101_2, hx101_3, hl101_3, hi101_3⟩ := at_T61 HR0.out x5_1 p101 q101
       cases e101
       replace hx101_0 := zc HB hx101_0
       replace hx101_1 := zc HB hx101_1
       replace hx101_2 := zc HB hx101_2
       replace hx101_3 := zc HB hx101_3
       have HR101_3 := Aside0.mk hi101_3
       have HC101_3 := Aside0.mk hl101_3
       clear hi101_3 hl101_3
       replace p101 := eq_true p101
       replace q101 := eq_true q101
       go_wp2_with (first | ((with_reducible refine gate_callee (f := 73) rfl ?_); refine zG (some 23) Try.func73 #[.agg #[.int .i64 ((rd_T61 l0 x5_1).f0), .int .i64 ((rd_T61 l0 x5_1).f1), .string ((rd_T61 l0 x5_1).f2), .slice A101_3 ((rd_T61 l0 x5_1).f3).length c101_3], .int .i64 x1_1] ?_; (with_reducible refine (ih73 k1 (by have := HK1.out; omega) ((rd_T61 l0 x5_1).f0) ((rd_T61 l0 x5_1).f1) ((rd_T61 l0 x5_1).f2) _ _ ((rd_T61 l0 x5_1).f3) x1_1 t102 _ (zR HR101_3) HC101_3.out A6.out).mono ?_); rintro e w8 ⟨rfl, hb⟩; refine ⟨_, rfl, ?_⟩; have n_ := Aside0.mk (zs hb); clear HB; have HB := n_; clear n_; (try clear hb)))
       go_ret
       exact ⟨zE, zB⟩
      ·have c7b0 := decide_eq_false c7
       clear c7
       have H' := Aside0.mk H
       clear H
       have p101 : 0 ≤ (x5_1 : Int) := zW
       have q101 : x5_1 < (l0.length : Int) := zW
       obtain ⟨ad101, A101_3, c101_3, e101, hx101_0, hx101_1, hx101_2, hx101_3, hl101_3, hi101_3⟩ := at_T61 HR0.out x5_1 p101 q101
       cases e101
       replace hx101_0 := zc HB hx101_0
       replace hx101_1 := zc HB hx101_1
       replace hx101_2 := zc HB hx101_2
       replace hx101_3 := zc HB hx101_3
       have HR101_3 := Aside0.mk hi101_3
       have HC101_3 := Aside0.mk hl101_3
       clear hi101_3 hl101_3
       replace p101 := eq_true p101
       replace q101 := eq_true q101
       go_wp2_with (first | ((with_reducible refine gate_callee (f := 73) rfl ?_); refine zG (some 23) Try.func73 #[.agg #[.int .i64 ((rd_T61 l0 x5_1).f0), .int .i64 ((rd_T61 l0 x5_1).f1), .string ((rd_T61 l0 x5_1).f2), .slice A101_3 ((rd_T61 l0 x5_1).f3).length c101_3], .int .i64 x1_1] ?_; (with_reducible refine (ih73 k1 (by have := HK1.out; omega) ((rd_T61 l0 x5_1).f0) ((rd_T61 l0 x5_1).f1) ((rd_T61 l0 x5_1).f2) _ _ ((rd_T61 l0 x5_1).f3) x1_1 t102 _ (zR HR101_3) HC101_3.out A6.out).mono ?_); rintro e w9 ⟨rfl, hb⟩; refine ⟨_, rfl, ?_⟩; have n_ := Aside0.mk (zs hb); clear HB; have HB := n_; clear n_; (try clear hb)))
       go_roundg k1
       case measure => have := HK1.out; omega
       case rel => exact ⟨(t102), (wrap64 (x5_1 + 1)), zS, zS, H', ⟨by have := HK1.out; omega⟩, ⟨zB⟩⟩
     ·exact absurd H (by simp)
    ·have c4b0 := decide_eq_false c4
     clear c4
     obtain rfl := Option.some.inj H
     go_wp2
     go_ret
     exact ⟨zE, zB⟩

theorem laws_szNode.step (k : Nat) (ih109 : ∀ m_, m_ < k → ∀ (A0 : Option Addr) (c0 : Nat) (l0 : List (S61)) (a1 : Int) (r : Int) (w : World) (hr0 : Kd.C k61 w A0 l0.length l0) (hc0 : l0.length ≤ c0) (h : laws_szNodeS.f m_ l0 a1 = some r),
  Calls Try.prog 109 #[.slice A0 l0.length c0, .int .i64 a1] w fun e w' => e = .returned (.int .i64 r) ∧ Below w.heap.size w w') (ih73 : ∀ m_, m_ < k → ∀ (a0_0 : Int) (a0_1 : Int) (a0_2 : ByteArray) (A0_3 : Option Addr) (c0_3 : Nat) (l0_3 : List (S61)) (a1 : Int) (r : Int) (w : World) (hr0_3 : Kd.C k61 w A0_3 l0_3.length l0_3) (hc0_3 : l0_3.length ≤ c0_3) (h : laws_szNode.f m_ a0_0 a0_1 a0_2 l0_3 a1 = some r),
  Calls Try.prog 73 #[.agg #[.int .i64 a0_0, .int .i64 a0_1, .string a0_2, .slice A0_3 l0_3.length c0_3], .int .i64 a1] w fun e w' => e = .returned (.int .i64 r) ∧ Below w.heap.size w w') : ∀ (a0_0 : Int) (a0_1 : Int) (a0_2 : ByteArray) (A0_3 : Option Addr) (c0_3 : Nat) (l0_3 : List (S61)) (a1 : Int) (r : Int) (w : World) (hr0_3 : Kd.C k61 w A0_3 l0_3.length l0_3) (hc0_3 : l0_3.length ≤ c0_3) (h : laws_szNode.f k a0_0 a0_1 a0_2 l0_3 a1 = some r),
  Calls Try.prog 73 #[.agg #[.int .i64 a0_0, .int .i64 a0_1, .string a0_2, .slice A0_3 l0_3.length c0_3], .int .i64 a1] w fun e w' => e = .returned (.int .i64 r) ∧ Below w.heap.size w w' := by
 intro a0_0 a0_1 a0_2 A0_3 c0_3 l0_3 a1 r w hr0_3 hc0_3 h
 cases k with
 | zero => exact absurd h (by simp [laws_szNode.f])
 | succ k =>
 rw [laws_szNode.f] at h
 have hu61 := Try.underlying61
 have HR0_3 := Aside0.mk hr0_3
 have HC0_3 := Aside0.mk hc0_3
 clear hr0_3 hc0_3
 have HB := Aside0.mk (Below.refl w.heap.size w)
 have H := h
 clear h
 replace H := zI H; obtain ⟨c3, H⟩ | ⟨c3, H⟩ := H
 ·have c3b0 := decide_eq_true c3
  clear c3
  obtain rfl := Option.some.inj H
  go_enter Try.func73, Try.ntmps73
  go_wp2_with (first | ((with_reducible refine gate_dst (N := 2) rfl ?_); refine zX (N := 2) (cs := #[.int .i64 a0_0, .int .i64 a0_1, .string a0_2, .slice A0_3 l0_3.length c0_3]) (t := 61) ?_; intro gb103 hg w4 hbox hb; have n_ := z4 (zs hb) (hbox) (zl hg) (zl hg); clear HB; obtain ⟨HB, BK103, GW103, GE103⟩ := n_; clear hb hbox hg; obtain ⟨hcz5_0, hcz5_1, hcz5_2, hcz5_3, hfz5_0, hfz5_1, hfz5_2, hfz5_3⟩ := zC4 BK103))
  go_ret
  exact ⟨zE, zB⟩
 ·have c3b0 := decide_eq_false c3
  clear c3
  replace H := zO H; obtain ⟨t104, A6, H⟩ := H
  replace H := zI H; obtain ⟨c7, H⟩ | ⟨c7, H⟩ := H
  ·have c7b0 := decide_eq_true c7
   clear c7
   obtain rfl := Option.some.inj H
   go_enter Try.func73, Try.ntmps73
   go_wp2_with (first | ((with_reducible refine gate_dst (N := 2) rfl ?_); refine zX (N := 2) (cs := #[.int .i64 a0_0, .int .i64 a0_1, .string a0_2, .slice A0_3 l0_3.length c0_3]) (t := 61) ?_; intro gb103 hg w8 hbox hb; have n_ := z4 (zs hb) (hbox) (zl hg) (zl hg); clear HB; obtain ⟨HB, BK103, GW103, GE103⟩ := n_; clear hb hbox hg; obtain ⟨hcz9_0, hcz9_1, hcz9_2, hcz9_3, hfz9_0, hfz9_1, hfz9_2, hfz9_3⟩ := zC4 BK103) | ((with_reducible refine gate_callee (f := 109) rfl ?_); refine zG (some 15) Try.func109 #[.slice A0_3 l0_3.length c0_3, .int .i64 (wrap64 (a1 - (a0_2.size : Int)))] ?_; (with_reducible refine (ih109 k (by omega) _ _ l0_3 (wrap64 (a1 - (a0_2.size : Int))) t104 _ (zR HR0_3) HC0_3.out A6.out).mono ?_); rintro e w10 ⟨rfl, hb⟩; refine ⟨_, rfl, ?_⟩; have n_ := z2 (zb BK103 hb) (zs hb); clear BK103 HB; obtain ⟨BK103, HB⟩ := n_; (try clear hb)))
   go_ret
   exact ⟨zE, zB⟩
  ·have c7b0 := decide_eq_false c7
   clear c7
   obtain rfl := Option.some.inj H
   go_enter Try.func73, Try.ntmps73
   go_wp2_with (first | ((with_reducible refine gate_dst (N := 2) rfl ?_); refine zX (N := 2) (cs := #[.int .i64 a0_0, .int .i64 a0_1, .string a0_2, .slice A0_3 l0_3.length c0_3]) (t := 61) ?_; intro gb103 hg w11 hbox hb; have n_ := z4 (zs hb) (hbox) (zl hg) (zl hg); clear HB; obtain ⟨HB, BK103, GW103, GE103⟩ := n_; clear hb hbox hg; obtain ⟨hcz12_0, hcz12_1, hcz12_2, hcz12_3, hfz12_0, hfz12_1, hfz12_2, hfz12_3⟩ := zC4 BK103) | ((with_reducible refine gate_callee (f := 109) rfl ?_); refine zG (some 15) Try.func109 #[.slice A0_3 l0_3.length c0_3, .int .i64 (wrap64 (a1 - (a0_2.size : Int)))] ?_; (with_reducible refine (ih109 k (by omega) _ _ l0_3 (wrap64 (a1 - (a0_2.size : Int))) t104 _ (zR HR0_3) HC0_3.out A6.out).mono ?_); rintro e w13 ⟨rfl, hb⟩; refine ⟨_, rfl, ?_⟩; have n_ := z2 (zb BK103 hb) (zs hb); clear BK103 HB; obtain ⟨BK103, HB⟩ := n_; (try clear hb)))
   go_ret
   exact ⟨zE, zB⟩

theorem laws_szNodeS.all_ (k : Nat) : (∀ (A0 : Option Addr) (c0 : Nat) (l0 : List (S61)) (a1 : Int) (r : Int) (w : World) (hr0 : Kd.C k61 w A0 l0.length l0) (hc0 : l0.length ≤ c0) (h : laws_szNodeS.f k l0 a1 = some r),
  Calls Try.prog 109 #[.slice A0 l0.length c0, .int .i64 a1] w fun e w' => e = .returned (.int .i64 r) ∧ Below w.heap.size w w') ∧ (∀ (a0_0 : Int) (a0_1 : Int) (a0_2 : ByteArray) (A0_3 : Option Addr) (c0_3 : Nat) (l0_3 : List (S61)) (a1 : Int) (r : Int) (w : World) (hr0_3 : Kd.C k61 w A0_3 l0_3.length l0_3) (hc0_3 : l0_3.length ≤ c0_3) (h : laws_szNode.f k a0_0 a0_1 a0_2 l0_3 a1 = some r),
  Calls Try.prog 73 #[.agg #[.int .i64 a0_0, .int .i64 a0_1, .string a0_2, .slice A0_3 l0_3.length c0_3], .int .i64 a1] w fun e w' => e = .returned (.int .i64 r) ∧ Below w.heap.size w w') := by
 induction k using Nat.strongRecOn with
 | _ k ih => exact ⟨laws_szNodeS.step k (fun m_ h_ => (ih m_ h_).1) (fun m_ h_ => (ih m_ h_).2), laws_szNode.step k (fun m_ h_ => (ih m_ h_).1) (fun m_ h_ => (ih m_ h_).2)⟩
theorem laws_szNodeS.calls (k : Nat) : ∀ (A0 : Option Addr) (c0 : Nat) (l0 : List (S61)) (a1 : Int) (r : Int) (w : World) (hr0 : Kd.C k61 w A0 l0.length l0) (hc0 : l0.length ≤ c0) (h : laws_szNodeS.f k l0 a1 = some r),
  Calls Try.prog 109 #[.slice A0 l0.length c0, .int .i64 a1] w fun e w' => e = .returned (.int .i64 r) ∧ Below w.heap.size w w' := (laws_szNodeS.all_ k).1
theorem laws_szNode.calls (k : Nat) : ∀ (a0_0 : Int) (a0_1 : Int) (a0_2 : ByteArray) (A0_3 : Option Addr) (c0_3 : Nat) (l0_3 : List (S61)) (a1 : Int) (r : Int) (w : World) (hr0_3 : Kd.C k61 w A0_3 l0_3.length l0_3) (hc0_3 : l0_3.length ≤ c0_3) (h : laws_szNode.f k a0_0 a0_1 a0_2 l0_3 a1 = some r),
  Calls Try.prog 73 #[.agg #[.int .i64 a0_0, .int .i64 a0_1, .string a0_2, .slice A0_3 l0_3.length c0_3], .int .i64 a1] w fun e w' => e = .returned (.int .i64 r) ∧ Below w.heap.size w w' := (laws_szNodeS.all_ k).2
/-! ### laws_szRule: function 32 -/
theorem laws_szRule.calls (k : Nat) (a0_0 : Int) (a0_1 : Int) (a0_2 : Int) (a0_3 : ByteArray) (A0_4 : Option Addr) (c0_4 : Nat) (l0_4 : List (S61)) (a0_5 : Int) (a0_6 : Int) (a0_7 : ByteArray) (A0_8 : Option Addr) (c0_8 : Nat) (l0_8 : List (S61)) (a1 : Int) (r : Int) (w : World) (hr0_4 : Kd.C k61 w A0_4 l0_4.length l0_4) (hc0_4 : l0_4.length ≤ c0_4) (hr0_8 : Kd.C k61 w A0_8 l0_8.length l0_8) (hc0_8 : l0_8.length ≤ c0_8) (h : laws_szRule.f k a0_0 a0_1 a0_2 a0_3 l0_4 a0_5 a0_6 a0_7 l0_8 a1 = some r) :
  Calls Try.prog 32 #[.agg #[.int .i64 a0_0, .int .i64 a0_1, .int .i64 a0_2, .string a0_3, .slice A0_4 l0_4.length c0_4, .int .i64 a0_5, .int .i64 a0_6, .string a0_7, .slice A0_8 l0_8.length c0_8], .int .i64 a1] w fun e w' => e = .returned (.int .i64 r) ∧ Below w.heap.size w w' := by
 have hu63 := Try.underlying63
 have hu61 := Try.underlying61
 have HR0_4 := Aside0.mk hr0_4
 have HC0_4 := Aside0.mk hc0_4
 clear hr0_4 hc0_4
 have HR0_8 := Aside0.mk hr0_8
 have HC0_8 := Aside0.mk hc0_8
 clear hr0_8 hc0_8
 have HB := Aside0.mk (Below.refl w.heap.size w)
 rw [laws_szRule.f] at h
 have H := h
 clear h
 replace H := zO H; obtain ⟨t106, A3, H⟩ := H
 replace H := zI H; obtain ⟨c4, H⟩ | ⟨c4, H⟩ := H
 ·have c4b0 := decide_eq_true c4
  clear c4
  obtain rfl := Option.some.inj H
  go_enter Try.func32, Try.ntmps32
  go_wp2_with (first | ((with_reducible refine gate_dst (N := 2) rfl ?_); refine zX (N := 2) (cs := #[.int .i64 a0_0, .int .i64 a0_1, .int .i64 a0_2, .string a0_3, .slice A0_4 l0_4.length c0_4, .int .i64 a0_5, .int .i64 a0_6, .string a0_7, .slice A0_8 l0_8.length c0_8]) (t := 63) ?_; intro gb105 hg w5 hbox hb; have n_ := z4 (zs hb) (hbox) (zl hg) (zl hg); clear HB; obtain ⟨HB, BK105, GW105, GE105⟩ := n_; clear hb hbox hg; obtain ⟨hcz6_0, hcz6_1, hcz6_2, hcz6_3, hcz6_4, hcz6_5, hcz6_6, hcz6_7, hcz6_8, hfz6_0, hfz6_1, hfz6_2, hfz6_3, hfz6_4, hfz6_5, hfz6_6, hfz6_7, hfz6_8⟩ := zC9 BK105) | ((with_reducible refine gate_callee (f := 73) rfl ?_); refine zG (some 8) Try.func73 #[.agg #[.int .i64 a0_1, .int .i64 a0_2, .string a0_3, .slice A0_4 l0_4.length c0_4], .int .i64 a1] ?_; (with_reducible refine (laws_szNode.calls k a0_1 a0_2 a0_3 _ _ l0_4 a1 t106 _ (zR HR0_4) HC0_4.out A3.out).mono ?_); rintro e w7 ⟨rfl, hb⟩; refine ⟨_, rfl, ?_⟩; have n_ := z2 (zb BK105 hb) (zs hb); clear BK105 HB; obtain ⟨BK105, HB⟩ := n_; (try clear hb)))
  go_ret
  exact ⟨zE, zB⟩
 ·have c4b0 := decide_eq_false c4
  clear c4
  replace H := zO H; obtain ⟨t107, A8, H⟩ := H
  replace H := zI H; obtain ⟨c9, H⟩ | ⟨c9, H⟩ := H
  ·have c9b0 := decide_eq_true c9
   clear c9
   obtain rfl := Option.some.inj H
   go_enter Try.func32, Try.ntmps32
   go_wp2_with (first | ((with_reducible refine gate_dst (N := 2) rfl ?_); refine zX (N := 2) (cs := #[.int .i64 a0_0, .int .i64 a0_1, .int .i64 a0_2, .string a0_3, .slice A0_4 l0_4.length c0_4, .int .i64 a0_5, .int .i64 a0_6, .string a0_7, .slice A0_8 l0_8.length c0_8]) (t := 63) ?_; intro gb105 hg w10 hbox hb; have n_ := z4 (zs hb) (hbox) (zl hg) (zl hg); clear HB; obtain ⟨HB, BK105, GW105, GE105⟩ := n_; clear hb hbox hg; obtain ⟨hcz11_0, hcz11_1, hcz11_2, hcz11_3, hcz11_4, hcz11_5, hcz11_6, hcz11_7, hcz11_8, hfz11_0, hfz11_1, hfz11_2, hfz11_3, hfz11_4, hfz11_5, hfz11_6, hfz11_7, hfz11_8⟩ := zC9 BK105) | ((with_reducible refine gate_callee (f := 73) rfl ?_); refine zG (some 8) Try.func73 #[.agg #[.int .i64 a0_1, .int .i64 a0_2, .string a0_3, .slice A0_4 l0_4.length c0_4], .int .i64 a1] ?_; (with_reducible refine (laws_szNode.calls k a0_1 a0_2 a0_3 _ _ l0_4 a1 t106 _ (zR HR0_4) HC0_4.out A3.out).mono ?_); rintro e w12 ⟨rfl, hb⟩; refine ⟨_, rfl, ?_⟩; have n_ := z2 (zb BK105 hb) (zs hb); clear BK105 HB; obtain ⟨BK105, HB⟩ := n_; (try clear hb); obtain ⟨hcz13_0, hcz13_1, hcz13_2, hcz13_3, hcz13_4, hcz13_5, hcz13_6, hcz13_7, hcz13_8, hfz13_0, hfz13_1, hfz13_2, hfz13_3, hfz13_4, hfz13_5, hfz13_6, hfz13_7, hfz13_8⟩ := zC9 BK105) | ((with_reducible refine gate_callee (f := 73) rfl ?_); refine zG (some 14) Try.func73 #[.agg #[.int .i64 a0_5, .int .i64 a0_6, .string a0_7, .slice A0_8 l0_8.length c0_8], .int .i64 t106] ?_; (with_reducible refine (laws_szNode.calls k a0_5 a0_6 a0_7 _ _ l0_8 t106 t107 _ (zR HR0_8) HC0_8.out A8.out).mono ?_); rintro e w14 ⟨rfl, hb⟩; refine ⟨_, rfl, ?_⟩; have n_ := z2 (zb BK105 hb) (zs hb); clear BK105 HB; obtain ⟨BK105, HB⟩ := n_; (try clear hb)))
   go_ret
   exact ⟨zE, zB⟩
  ·have c9b0 := decide_eq_false c9
   clear c9
   obtain rfl := Option.some.inj H
   go_enter Try.func32, Try.ntmps32
   go_wp2_with (first | ((with_reducible refine gate_dst (N := 2) rfl ?_); refine zX (N := 2) (cs := #[.int .i64 a0_0, .int .i64 a0_1, .int .i64 a0_2, .string a0_3, .slice A0_4 l0_4.length c0_4, .int .i64 a0_5, .int .i64 a0_6, .string a0_7, .slice A0_8 l0_8.length c0_8]) (t := 63) ?_; intro gb105 hg w15 hbox hb; have n_ := z4 (zs hb) (hbox) (zl hg) (zl hg); clear HB; obtain ⟨HB, BK105, GW105, GE105⟩ := n_; clear hb hbox hg; obtain ⟨hcz16_0, hcz16_1, hcz16_2, hcz16_3, hcz16_4, hcz16_5, hcz16_6, hcz16_7, hcz16_8, hfz16_0, hfz16_1, hfz16_2, hfz16_3, hfz16_4, hfz16_5, hfz16_6, hfz16_7, hfz16_8⟩ := zC9 BK105) | ((with_reducible refine gate_callee (f := 73) rfl ?_); refine zG (some 8) Try.func73 #[.agg #[.int .i64 a0_1, .int .i64 a0_2, .string a0_3, .slice A0_4 l0_4.length c0_4], .int .i64 a1] ?_; (with_reducible refine (laws_szNode.calls k a0_1 a0_2 a0_3 _ _ l0_4 a1 t106 _ (zR HR0_4) HC0_4.out A3.out).mono ?_); rintro e w17 ⟨rfl, hb⟩; refine ⟨_, rfl, ?_⟩; have n_ := z2 (zb BK105 hb) (zs hb); clear BK105 HB; obtain ⟨BK105, HB⟩ := n_; (try clear hb); obtain ⟨hcz18_0, hcz18_1, hcz18_2, hcz18_3, hcz18_4, hcz18_5, hcz18_6, hcz18_7, hcz18_8, hfz18_0, hfz18_1, hfz18_2, hfz18_3, hfz18_4, hfz18_5, hfz18_6, hfz18_7, hfz18_8⟩ := zC9 BK105) | ((with_reducible refine gate_callee (f := 73) rfl ?_); refine zG (some 14) Try.func73 #[.agg #[.int .i64 a0_5, .int .i64 a0_6, .string a0_7, .slice A0_8 l0_8.length c0_8], .int .i64 t106] ?_; (with_reducible refine (laws_szNode.calls k a0_5 a0_6 a0_7 _ _ l0_8 t106 t107 _ (zR HR0_8) HC0_8.out A8.out).mono ?_); rintro e w19 ⟨rfl, hb⟩; refine ⟨_, rfl, ?_⟩; have n_ := z2 (zb BK105 hb) (zs hb); clear BK105 HB; obtain ⟨BK105, HB⟩ := n_; (try clear hb)))
   go_ret
   exact ⟨zE, zB⟩

/-! ### laws_szRuleS: function 8 -/
theorem laws_szRuleS.calls (k : Nat) (A0 : Option Addr) (c0 : Nat) (l0 : List (S63)) (a1 : Int) (r : Int) (w : World) (hr0 : Kd.C k63 w A0 l0.length l0) (hc0 : l0.length ≤ c0) (h : laws_szRuleS.f k l0 a1 = some r) :
  Calls Try.prog 8 #[.slice A0 l0.length c0, .int .i64 a1] w fun e w' => e = .returned (.int .i64 r) ∧ Below w.heap.size w w' := by
 have hu63 := Try.underlying63
 have HR0 := Aside0.mk hr0
 have HC0 := Aside0.mk hc0
 clear hr0 hc0
 have HB := Aside0.mk (Below.refl w.heap.size w)
 rw [laws_szRuleS.f] at h
 have H := h
 clear h
 replace H := zI H; obtain ⟨c3, H⟩ | ⟨c3, H⟩ := H
 ·have c3b0 := decide_eq_true c3
  clear c3
  obtain rfl := Option.some.inj H
  go_enter Try.func8, Try.ntmps8
  go_wp2
  go_ret
  exact ⟨zE, zB⟩
 ·have c3b0 := decide_eq_false c3
  clear c3
  have H' := Aside0.mk H
  clear H
  go_enter Try.func8, Try.ntmps8
  go_wp2
  go_loopg [1, 5] k (fun kq v1 v5 w' => ∃ (x1_1 : Int) (x5_1 : Int), v1 = .int .i64 x1_1 ∧ v5 = .int .i64 x5_1 ∧ Aside0 (laws_szRuleS.l0 kq l0 x1_1 x5_1 = some r) ∧ Aside0 (kq ≤ k) ∧ Aside0 (Below w.heap.size w w'))
  case atStart => exact ⟨(wrap64 (a1 - (l0.length : Int))), (0), zS, zS, H', ⟨Nat.le_refl _⟩, ⟨zB⟩⟩
  case round =>
   clear H'
   (try clear c3); (try clear c3b0)
   obtain ⟨x1_1, x5_1, rfl, rfl, HA, HK1, HB⟩ := hrel
   cases gk with
   | zero => exact absurd HA.out (by simp [laws_szRuleS.l0])
   | succ k1 =>
    have H := HA.out
    clear HA
    simp only [laws_szRuleS.l0] at H
    replace H := zI H; obtain ⟨c4, H⟩ | ⟨c4, H⟩ := H
    ·have c4b0 := decide_eq_true c4
     clear c4
     replace H := zI H; obtain ⟨c5, H⟩ | ⟨c5, H⟩ := H
     ·have c5b0 := decide_eq_true c5
      clear c5
      replace H := zO H; obtain ⟨t109, A6, H⟩ := H
      replace H := zI H; obtain ⟨c7, H⟩ | ⟨c7, H⟩ := H
      ·have c7b0 := decide_eq_true c7
       clear c7
       obtain rfl := Option.some.inj H
       have p108 : 0 ≤ (x5_1 : Int) := zW
       have q108 : x5_1 < (l0.length : Int) := zW
       obtain ⟨ad108, A108_4, c108_4, A108_8, c108_8, e108, hx108_0, hx108_1, hx108_2, hx108_3, hx108_4, hx108_5, hx108_6, hx108_7, hx108_8, hl108_4, hi108_4, hl108_8, hi108_8⟩ := at_T63 HR0.out x5_1 p108 q108
       cases e108
       replace hx108_0 := zc HB hx108_0
       replace hx108_1 := zc HB hx108_1
       replace hx108_2 := zc HB hx108_2
       replace hx108_3 := zc HB hx108_3
       replace hx108_4 := zc HB hx108_4
       replace hx108_5 := zc HB hx108_5
       replace hx108_6 := zc HB hx108_6
       replace hx108_7 := zc HB hx108_7
       replace hx108_8 := zc HB hx108_8
       have HR108_4 := Aside0.mk hi108_4
       have HC108_4 := Aside0.mk hl108_4
       clear hi108_4 hl108_4
       have HR108_8 := Aside0.mk hi108_8
       have HC108_8 := Aside0.mk hl108_8
       clear hi108_8 hl108_8
       replace p108 := eq_true p108
       replace q108 := eq_true q108
       go_wp2_with (first | ((with_reducible refine gate_callee (f := 32) rfl ?_); refine zG (some 23) Try.func32 #[.agg #[.int .i64 ((rd_T63 l0 x5_1).f0), .int .i64 ((rd_T63 l0 x5_1).f1.f0), .int .i64 ((rd_T63 l0 x5_1).f1.f1), .string ((rd_T63 l0 x5_1).f1.f2), .slice A108_4 ((rd_T63 l0 x5_1).f1.f3).length c108_4, .int .i64 ((rd_T63 l0 x5_1).f2.f0), .int .i64 ((rd_T63 l0 x5_1).f2.f1), .string ((rd_T63 l0 x5_1).f2.f2), .slice A108_8 ((rd_T63 l0 x5_1).f2.f3).length c108_8], .int .i64 x1_1] ?_; (with_reducible refine (laws_szRule.calls k1 ((rd_T63 l0 x5_1).f0) ((rd_T63 l0 x5_1).f1.f0) ((rd_T63 l0 x5_1).f1.f1) ((rd_T63 l0 x5_1).f1.f2) _ _ ((rd_T63 l0 x5_1).f1.f3) ((rd_T63 l0 x5_1).f2.f0) ((rd_T63 l0 x5_1).f2.f1) ((rd_T63 l0 x5_1).f2.f2) _ _ ((rd_T63 l0 x5_1).f2.f3) x1_1 t109 _ (zR HR108_4) HC108_4.out (zR HR108_8) HC108_8.out A6.out).mono ?_); rintro e w8 ⟨rfl, hb⟩; refine ⟨_, rfl, ?_⟩; have n_ := Aside0.mk (zs hb); clear HB; have HB := n_; clear n_; (try clear hb)))
       go_ret
       exact ⟨zE, zB⟩
      ·have c7b0 := decide_eq_false c7
       clear c7
       have H' := Aside0.mk H
       clear H
       have p108 : 0 ≤ (x5_1 : Int) := zW
       have q108 : x5_1 < (l0.length : Int) := zW
       obtain ⟨ad108, A108_4, c108_4, A108_8, c108_8, e108, hx108_0, hx108_1, hx108_2, hx108_3, hx108_4, hx108_5, hx108_6, hx108_7, hx108_8, hl108_4, hi108_4, hl108_8, hi108_8⟩ := at_T63 HR0.out x5_1 p108 q108
       cases e108
       replace hx108_0 := zc HB hx108_0
       replace hx108_1 := zc HB hx108_1
       replace hx108_2 := zc HB hx108_2
       replace hx108_3 := zc HB hx108_3
       replace hx108_4 := zc HB hx108_4
       replace hx108_5 := zc HB hx108_5
       replace hx108_6 := zc HB hx108_6
       replace hx108_7 := zc HB hx108_7
       replace hx108_8 := zc HB hx108_8
       have HR108_4 := Aside0.mk hi108_4
       have HC108_4 := Aside0.mk hl108_4
       clear hi108_4 hl108_4
       have HR108_8 := Aside0.mk hi108_8
       have HC108_8 := Aside0.mk hl108_8
       clear hi108_8 hl108_8
       replace p108 := eq_true p108
       replace q108 := eq_true q108
       go_wp2_with (first | ((with_reducible refine gate_callee (f := 32) rfl ?_); refine zG (some 23) Try.func32 #[.agg #[.int .i64 ((rd_T63 l0 x5_1).f0), .int .i64 ((rd_T63 l0 x5_1).f1.f0), .int .i64 ((rd_T63 l0 x5_1).f1.f1), .string ((rd_T63 l0 x5_1).f1.f2), .slice A108_4 ((rd_T63 l0 x5_1).f1.f3).length c108_4, .int .i64 ((rd_T63 l0 x5_1).f2.f0), .int .i64 ((rd_T63 l0 x5_1).f2.f1), .string ((rd_T63 l0 x5_1).f2.f2), .slice A108_8 ((rd_T63 l0 x5_1).f2.f3).length c108_8], .int .i64 x1_1] ?_; (with_reducible refine (laws_szRule.calls k1 ((rd_T63 l0 x5_1).f0) ((rd_T63 l0 x5_1).f1.f0) ((rd_T63 l0 x5_1).f1.f1) ((rd_T63 l0 x5_1).f1.f2) _ _ ((rd_T63 l0 x5_1).f1.f3) ((rd_T63 l0 x5_1).f2.f0) ((rd_T63 l0 x5_1).f2.f1) ((rd_T63 l0 x5_1).f2.f2) _ _ ((rd_T63 l0 x5_1).f2.f3) x1_1 t109 _ (zR HR108_4) HC108_4.out (zR HR108_8) HC108_8.out A6.out).mono ?_); rintro e w9 ⟨rfl, hb⟩; refine ⟨_, rfl, ?_⟩; have n_ := Aside0.mk (zs hb); clear HB; have HB := n_; clear n_; (try clear hb)))
       go_roundg k1
       case measure => have := HK1.out; omega
       case rel => exact ⟨(t109), (wrap64 (x5_1 + 1)), zS, zS, H', ⟨by have := HK1.out; omega⟩, ⟨zB⟩⟩
     ·exact absurd H (by simp)
    ·have c4b0 := decide_eq_false c4
     clear c4
     obtain rfl := Option.some.inj H
     go_wp2
     go_ret
     exact ⟨zE, zB⟩

/-! ### spec_l1In: function 33 -/
theorem spec_l1In.calls (a0 : Int) (a1 : Int) (a2 : Int) (r : Bool) (w : World) (h : spec_l1In.f a0 a1 a2 = some r) :
  Calls Try.prog 33 #[.int .i64 a0, .int .i64 a1, .int .i64 a2] w fun e w' => e = .returned (.bool r) ∧ Drawn0 w w' := by
 rw [spec_l1In.f] at h
 have H := h
 clear h
 replace H := zI H; obtain ⟨c4, H⟩ | ⟨c4, H⟩ := H
 ·have c4b0 := decide_eq_true c4
  clear c4
  obtain rfl := Option.some.inj H
  go_enter Try.func33, Try.ntmps33
  go_wp2
  go_ret
  exact ⟨by first | rfl | (simp; done) | (simp [*]; done) | (simp [Int.tdiv_eq_ediv_of_nonneg]; done), by repeat (first | exact Drawn0.refl _ | apply Drawn0.step)⟩
 ·have c4b0 := decide_eq_false c4
  clear c4
  obtain rfl := Option.some.inj H
  go_enter Try.func33, Try.ntmps33
  go_wp2
  go_ret
  exact ⟨by first | rfl | (simp; done) | (simp [*]; done) | (simp [Int.tdiv_eq_ediv_of_nonneg]; done), by repeat (first | exact Drawn0.refl _ | apply Drawn0.step)⟩

/-! ### spec_l9IsE: function 34 -/
theorem spec_l9IsE.calls (a0 : Int) (r : Bool) (w : World) (h : spec_l9IsE.f a0 = some r) :
  Calls Try.prog 34 #[.int .i64 a0] w fun e w' => e = .returned (.bool r) ∧ Drawn0 w w' := by
 rw [spec_l9IsE.f] at h
 have H := h
 clear h
 replace H := zO H; obtain ⟨t110, A2, H⟩ := H
 obtain rfl := Option.some.inj H
 go_enter Try.func34, Try.ntmps34
 go_wp2_with (first | ((with_reducible refine gate_callee (f := 33) rfl ?_); refine zG (some 4) Try.func33 #[.int .i64 a0, .int .i64 1, .int .i64 28] ?_; (with_reducible refine (spec_l1In.calls a0 1 28 t110 _ A2.out).mono ?_); rintro e w' ⟨rfl, ⟨nd, rfl⟩⟩; refine ⟨_, rfl, ?_⟩))
 go_ret
 exact ⟨by first | rfl | (simp; done) | (simp [*]; done) | (simp [Int.tdiv_eq_ediv_of_nonneg]; done), by repeat (first | exact Drawn0.refl _ | apply Drawn0.step)⟩

/-! ### spec_l7Letter: function 94 -/
theorem spec_l7Letter.calls (a0 : Int) (r : Bool) (w : World) (h : spec_l7Letter.f a0 = some r) :
  Calls Try.prog 94 #[.int .u8 a0] w fun e w' => e = .returned (.bool r) ∧ Drawn0 w w' := by
 rw [spec_l7Letter.f] at h
 have H := h
 clear h
 replace H := zI H; obtain ⟨c2, H⟩ | ⟨c2, H⟩ := H
 ·have c2b0 := decide_eq_true c2
  clear c2
  replace H := zI H; obtain ⟨c3, H⟩ | ⟨c3, H⟩ := H
  ·have c3b0 := decide_eq_true c3
   clear c3
   obtain rfl := Option.some.inj H
   go_enter Try.func94, Try.ntmps94
   go_wp2
   go_ret
   exact ⟨by first | rfl | (simp; done) | (simp [*]; done) | (simp [Int.tdiv_eq_ediv_of_nonneg]; done), by repeat (first | exact Drawn0.refl _ | apply Drawn0.step)⟩
  ·have c3b0 := decide_eq_false c3
   clear c3
   replace H := zI H; obtain ⟨c4, H⟩ | ⟨c4, H⟩ := H
   ·have c4b0 := decide_eq_true c4
    clear c4
    obtain rfl := Option.some.inj H
    go_enter Try.func94, Try.ntmps94
    go_wp2
    go_ret
    exact ⟨by first | rfl | (simp; done) | (simp [*]; done) | (simp [Int.tdiv_eq_ediv_of_nonneg]; done), by repeat (first | exact Drawn0.refl _ | apply Drawn0.step)⟩
   ·have c4b0 := decide_eq_false c4
    clear c4
    obtain rfl := Option.some.inj H
    go_enter Try.func94, Try.ntmps94
    go_wp2
    go_ret
    exact ⟨by first | rfl | (simp; done) | (simp [*]; done) | (simp [Int.tdiv_eq_ediv_of_nonneg]; done), by repeat (first | exact Drawn0.refl _ | apply Drawn0.step)⟩
 ·have c2b0 := decide_eq_false c2
  clear c2
  replace H := zI H; obtain ⟨c5, H⟩ | ⟨c5, H⟩ := H
  ·have c5b0 := decide_eq_true c5
   clear c5
   obtain rfl := Option.some.inj H
   go_enter Try.func94, Try.ntmps94
   go_wp2
   go_ret
   exact ⟨by first | rfl | (simp; done) | (simp [*]; done) | (simp [Int.tdiv_eq_ediv_of_nonneg]; done), by repeat (first | exact Drawn0.refl _ | apply Drawn0.step)⟩
  ·have c5b0 := decide_eq_false c5
   clear c5
   obtain rfl := Option.some.inj H
   go_enter Try.func94, Try.ntmps94
   go_wp2
   go_ret
   exact ⟨by first | rfl | (simp; done) | (simp [*]; done) | (simp [Int.tdiv_eq_ediv_of_nonneg]; done), by repeat (first | exact Drawn0.refl _ | apply Drawn0.step)⟩

/-! ### spec_l7Within: function 57 -/
theorem spec_l7Within.calls (k : Nat) (A0 : Option Addr) (c0 : Nat) (l0 : List ByteArray) (a1 : ByteArray) (r : Bool) (w : World) (hr0 : Kd.C Kd.string w A0 l0.length l0) (hc0 : l0.length ≤ c0) (h : spec_l7Within.f k l0 a1 = some r) :
  Calls Try.prog 57 #[.slice A0 l0.length c0, .string a1] w fun e w' => e = .returned (.bool r) ∧ Drawn0 w w' := by
 have HR0 := Aside0.mk hr0
 have HC0 := Aside0.mk hc0
 clear hr0 hc0
 rw [spec_l7Within.f] at h
 have H := h
 clear h
 have H' := Aside0.mk H
 clear H
 go_enter Try.func57, Try.ntmps57
 go_wp2
 go_loopg [5] k (fun kq v5 w' => ∃ (x5_1 : Int), v5 = .int .i64 x5_1 ∧ Aside0 (spec_l7Within.l0 kq l0 a1 x5_1 = some r) ∧ Aside0 (kq ≤ k) ∧ Drawn0 w w')
 case atStart => exact ⟨(0), zS, H', ⟨Nat.le_refl _⟩, by repeat (first | exact Drawn0.refl _ | apply Drawn0.step)⟩
 case round =>
  clear H'
  obtain ⟨x5_1, rfl, HA, HK1, ⟨m1, rfl⟩⟩ := hrel
  cases gk with
  | zero => exact absurd HA.out (by simp [spec_l7Within.l0])
  | succ k1 =>
   have H := HA.out
   clear HA
   simp only [spec_l7Within.l0] at H
   replace H := zI H; obtain ⟨c3, H⟩ | ⟨c3, H⟩ := H
   ·have c3b0 := decide_eq_true c3
    clear c3
    replace H := zI H; obtain ⟨c4, H⟩ | ⟨c4, H⟩ := H
    ·have c4b0 := decide_eq_true c4
     clear c4
     replace H := zI H; obtain ⟨c5, H⟩ | ⟨c5, H⟩ := H
     ·have c5b0 := beq_iff_eq.mpr c5
      have c5b1 := bne_eq_false_iff_eq.mpr c5
      clear c5
      obtain rfl := Option.some.inj H
      have p111 : 0 ≤ (x5_1 : Int) := zW
      have q111 : x5_1 < (l0.length : Int) := zW
      obtain ⟨ad111, e111, hx111_0⟩ := Kd.at_string HR0.out x5_1 p111 q111
      cases e111
      replace p111 := eq_true p111
      replace q111 := eq_true q111
      go_wp2
      go_ret
      exact ⟨by first | rfl | (simp; done) | (simp [*]; done) | (simp [Int.tdiv_eq_ediv_of_nonneg]; done), by repeat (first | exact Drawn0.refl _ | apply Drawn0.step)⟩
     ·have c5b0 := beq_eq_false_iff_ne.mpr c5
      have c5b1 := bne_iff_ne.mpr c5
      have H' := Aside0.mk H
      clear H
      have p111 : 0 ≤ (x5_1 : Int) := zW
      have q111 : x5_1 < (l0.length : Int) := zW
      obtain ⟨ad111, e111, hx111_0⟩ := Kd.at_string HR0.out x5_1 p111 q111
      cases e111
      replace p111 := eq_true p111
      replace q111 := eq_true q111
      go_wp2
      go_roundg k1
      case measure => have := HK1.out; omega
      case rel => exact ⟨(wrap64 (x5_1 + 1)), zS, H', ⟨by have := HK1.out; omega⟩, by repeat (first | exact Drawn0.refl _ | apply Drawn0.step)⟩
    ·exact absurd H (by simp)
   ·have c3b0 := decide_eq_false c3
    clear c3
    obtain rfl := Option.some.inj H
    go_wp2
    go_ret
    exact ⟨by first | rfl | (simp; done) | (simp [*]; done) | (simp [Int.tdiv_eq_ediv_of_nonneg]; done), by repeat (first | exact Drawn0.refl _ | apply Drawn0.step)⟩

/-! ### spec_l7Calls: function 77 -/
theorem spec_l7Calls.calls  (r : List ByteArray) (w : World) (h : spec_l7Calls.f  = some r) :
  Calls Try.prog 77 #[] w fun e w' => ∃ v0_ : Value, e = .returned (v0_) ∧ Kd.R Kd.string 9 w' w.heap.size (fun _ => True) v0_ r ∧ Below w.heap.size w w' := by
 have HB := Aside0.mk (Below.refl w.heap.size w)
 rw [spec_l7Calls.f] at h
 have H := h
 clear h
 obtain ⟨y112, hy112⟩ : ∃ y_ : List ByteArray, y_ = (([(⟨#[108, 101, 110, 103, 116, 104]⟩ : ByteArray), (⟨#[115, 117, 98, 115, 116, 114]⟩ : ByteArray), (⟨#[105, 110, 100, 101, 120]⟩ : ByteArray), (⟨#[105, 110, 116]⟩ : ByteArray), (⟨#[117, 112, 112, 101, 114]⟩ : ByteArray), (⟨#[108, 111, 119, 101, 114]⟩ : ByteArray)] : List ByteArray)) := ⟨_, rfl⟩
 replace H : (some y112) = some r := by first | (rw [hy112]; with_reducible exact H) | (have H2_ := (Option.bind_some _ _).symm.trans H; rw [hy112]; with_reducible exact H2_) | (have H2_ := (Option.bind_some _ _).symm.trans H; with_reducible exact H2_) | with_reducible exact H | (rw [hy112]; exact H) | exact H
 have Ny112 := Aside0.mk hy112
 clear hy112
 obtain rfl := Option.some.inj H
 go_enter Try.func77, Try.ntmps77
 go_wp2_with (first | ((with_reducible refine gate_dst (N := 1) rfl ?_); refine Kd.R_lit Kd.string _ 9 ?hg (N := 1) ?hd (xs := ([(⟨#[108, 101, 110, 103, 116, 104]⟩ : ByteArray), (⟨#[115, 117, 98, 115, 116, 114]⟩ : ByteArray), (⟨#[105, 110, 100, 101, 120]⟩ : ByteArray), (⟨#[105, 110, 116]⟩ : ByteArray), (⟨#[117, 112, 112, 101, 114]⟩ : ByteArray), (⟨#[108, 111, 119, 101, 114]⟩ : ByteArray)] : List ByteArray)) (inner := [.string (⟨#[108, 101, 110, 103, 116, 104]⟩ : ByteArray), .string (⟨#[115, 117, 98, 115, 116, 114]⟩ : ByteArray), .string (⟨#[105, 110, 100, 101, 120]⟩ : ByteArray), .string (⟨#[105, 110, 116]⟩ : ByteArray), .string (⟨#[117, 112, 112, 101, 114]⟩ : ByteArray), .string (⟨#[108, 111, 119, 101, 114]⟩ : ByteArray)]) (ok := fun _ => True) (okp := fun _ => True) ?hr ?hp (fun _ hk => hk) trivial (Below.refl _ _) (Nat.le_refl _) (by simp) ?_; (case hd => rfl); (case hg => rfl); (case hr => first | (go_simp; done) | (go_simp; rfl)); (case hp => exact (Reps.one (show Kd.M Kd.string _ _ _ (⟨#[108, 101, 110, 103, 116, 104]⟩ : ByteArray) [.string (⟨#[108, 101, 110, 103, 116, 104]⟩ : ByteArray)] from rfl) (Reps.one (show Kd.M Kd.string _ _ _ (⟨#[115, 117, 98, 115, 116, 114]⟩ : ByteArray) [.string (⟨#[115, 117, 98, 115, 116, 114]⟩ : ByteArray)] from rfl) (Reps.one (show Kd.M Kd.string _ _ _ (⟨#[105, 110, 100, 101, 120]⟩ : ByteArray) [.string (⟨#[105, 110, 100, 101, 120]⟩ : ByteArray)] from rfl) (Reps.one (show Kd.M Kd.string _ _ _ (⟨#[105, 110, 116]⟩ : ByteArray) [.string (⟨#[105, 110, 116]⟩ : ByteArray)] from rfl) (Reps.one (show Kd.M Kd.string _ _ _ (⟨#[117, 112, 112, 101, 114]⟩ : ByteArray) [.string (⟨#[117, 112, 112, 101, 114]⟩ : ByteArray)] from rfl) (Reps.one (show Kd.M Kd.string _ _ _ (⟨#[108, 111, 119, 101, 114]⟩ : ByteArray) [.string (⟨#[108, 111, 119, 101, 114]⟩ : ByteArray)] from rfl) (Reps.none _ _)))))))); intro v113 w1 ho2 hb hg_ hnew_; clear hg_ hnew_; (first | rw [← Ny112.out] at ho2 | (simp only [Int.reduceToNat] at ho2; rw [← Ny112.out] at ho2)); have n_ := z2 (Kd.R_lower ho2 (below_size zB)) (zs hb); clear HB; obtain ⟨HO114, HB⟩ := n_; clear hb ho2))
 go_ret
 exact ⟨_, by first | rfl | (simp [errW_none, errW_some] <;> rfl) | (simp [*, errW_none, errW_some] <;> rfl) | (simp [bne, errW_none, errW_some]; done) | (simp [*, bne, errW_none, errW_some]; done), by (with_reducible repeat (first | apply Kd.R_alloc | apply Kd.R_drewN | apply Kd.R_drew)); exact HO114.out, zB⟩

/-! ### spec_Keyword: function 95 -/
theorem spec_Keyword.calls (k : Nat) (a0 : ByteArray) (r : Bool) (w : World) (h : spec_Keyword.f k a0 = some r) :
  Calls Try.prog 95 #[.string a0] w fun e w' => e = .returned (.bool r) ∧ Below w.heap.size w w' := by
 have HB := Aside0.mk (Below.refl w.heap.size w)
 rw [spec_Keyword.f] at h
 have H := h
 clear h
 obtain ⟨y115, hy115⟩ : ∃ y_ : List ByteArray, y_ = (([(⟨#[66, 69, 71, 73, 78]⟩ : ByteArray), (⟨#[112, 114, 105, 110, 116]⟩ : ByteArray), (⟨#[105, 102]⟩ : ByteArray), (⟨#[101, 108, 115, 101]⟩ : ByteArray), (⟨#[119, 104, 105, 108, 101]⟩ : ByteArray), (⟨#[110, 101, 120, 116]⟩ : ByteArray), (⟨#[100, 101, 108, 101, 116, 101]⟩ : ByteArray), (⟨#[78, 82]⟩ : ByteArray), (⟨#[78, 70]⟩ : ByteArray)] : List ByteArray)) := ⟨_, rfl⟩
 replace H : ((spec_l7Within.f k y115 a0).bind fun t118 => (if t118 = true then (some true) else ((spec_l7Calls.f).bind fun t119 => ((spec_l7Within.f k t119 a0).bind fun t122 => (some t122))))) = some r := by first | (rw [hy115]; with_reducible exact H) | (have H2_ := (Option.bind_some _ _).symm.trans H; rw [hy115]; with_reducible exact H2_) | (have H2_ := (Option.bind_some _ _).symm.trans H; with_reducible exact H2_) | with_reducible exact H | (rw [hy115]; exact H) | exact H
 have Ny115 := Aside0.mk hy115
 clear hy115
 replace H := zO H; obtain ⟨t118, A2, H⟩ := H
 by_cases c3 : t118 = true
 ·subst c3; replace H := zT H
  obtain rfl := Option.some.inj H
  go_enter Try.func95, Try.ntmps95
  go_wp2_with (first | ((with_reducible refine gate_dst (N := 3) rfl ?_); refine Kd.R_lit Kd.string _ 9 ?hg (N := 3) ?hd (xs := ([(⟨#[66, 69, 71, 73, 78]⟩ : ByteArray), (⟨#[112, 114, 105, 110, 116]⟩ : ByteArray), (⟨#[105, 102]⟩ : ByteArray), (⟨#[101, 108, 115, 101]⟩ : ByteArray), (⟨#[119, 104, 105, 108, 101]⟩ : ByteArray), (⟨#[110, 101, 120, 116]⟩ : ByteArray), (⟨#[100, 101, 108, 101, 116, 101]⟩ : ByteArray), (⟨#[78, 82]⟩ : ByteArray), (⟨#[78, 70]⟩ : ByteArray)] : List ByteArray)) (inner := [.string (⟨#[66, 69, 71, 73, 78]⟩ : ByteArray), .string (⟨#[112, 114, 105, 110, 116]⟩ : ByteArray), .string (⟨#[105, 102]⟩ : ByteArray), .string (⟨#[101, 108, 115, 101]⟩ : ByteArray), .string (⟨#[119, 104, 105, 108, 101]⟩ : ByteArray), .string (⟨#[110, 101, 120, 116]⟩ : ByteArray), .string (⟨#[100, 101, 108, 101, 116, 101]⟩ : ByteArray), .string (⟨#[78, 82]⟩ : ByteArray), .string (⟨#[78, 70]⟩ : ByteArray)]) (ok := fun _ => True) (okp := fun _ => True) ?hr ?hp (fun _ hk => hk) trivial (Below.refl _ _) (Nat.le_refl _) (by simp) ?_; (case hd => rfl); (case hg => rfl); (case hr => first | (go_simp; done) | (go_simp; rfl)); (case hp => exact (Reps.one (show Kd.M Kd.string _ _ _ (⟨#[66, 69, 71, 73, 78]⟩ : ByteArray) [.string (⟨#[66, 69, 71, 73, 78]⟩ : ByteArray)] from rfl) (Reps.one (show Kd.M Kd.string _ _ _ (⟨#[112, 114, 105, 110, 116]⟩ : ByteArray) [.string (⟨#[112, 114, 105, 110, 116]⟩ : ByteArray)] from rfl) (Reps.one (show Kd.M Kd.string _ _ _ (⟨#[105, 102]⟩ : ByteArray) [.string (⟨#[105, 102]⟩ : ByteArray)] from rfl) (Reps.one (show Kd.M Kd.string _ _ _ (⟨#[101, 108, 115, 101]⟩ : ByteArray) [.string (⟨#[101, 108, 115, 101]⟩ : ByteArray)] from rfl) (Reps.one (show Kd.M Kd.string _ _ _ (⟨#[119, 104, 105, 108, 101]⟩ : ByteArray) [.string (⟨#[119, 104, 105, 108, 101]⟩ : ByteArray)] from rfl) (Reps.one (show Kd.M Kd.string _ _ _ (⟨#[110, 101, 120, 116]⟩ : ByteArray) [.string (⟨#[110, 101, 120, 116]⟩ : ByteArray)] from rfl) (Reps.one (show Kd.M Kd.string _ _ _ (⟨#[100, 101, 108, 101, 116, 101]⟩ : ByteArray) [.string (⟨#[100, 101, 108, 101, 116, 101]⟩ : ByteArray)] from rfl) (Reps.one (show Kd.M Kd.string _ _ _ (⟨#[78, 82]⟩ : ByteArray) [.string (⟨#[78, 82]⟩ : ByteArray)] from rfl) (Reps.one (show Kd.M Kd.string _ _ _ (⟨#[78, 70]⟩ : ByteArray) [.string (⟨#[78, 70]⟩ : ByteArray)] from rfl) (Reps.none _ _))))))))))); intro v116 w4 ho5 hb hg_ hnew_; clear hg_ hnew_; (first | rw [← Ny115.out] at ho5 | (simp only [Int.reduceToNat] at ho5; rw [← Ny115.out] at ho5)); have n_ := z2 (Kd.R_lower ho5 (below_size zB)) (zs hb); clear HB; obtain ⟨HO117, HB⟩ := n_; clear hb ho5; obtain ⟨Ao6, co6, eo6⟩ := Kd.R_slice HO117.out; subst eo6) | ((with_reducible refine gate_callee (f := 57) rfl ?_); refine zG (some 5) Try.func57 #[.slice Ao6 y115.length co6, .string a0] ?_; (with_reducible refine (spec_l7Within.calls k _ _ y115 a0 true _ ?side1 ?side2 A2.out).mono ?_); (case side1 => repeat (first | exact (Kd.R_reads' HO117.out).2.2 | (with_reducible refine Kd.C_alloc ?_ _) | (with_reducible refine Kd.C_drewN ?_ _) | (with_reducible refine Kd.C_drew ?_))); (case side2 => exact (Kd.R_reads' HO117.out).2.1); rintro e w' ⟨rfl, ⟨nd, rfl⟩⟩; refine ⟨_, rfl, ?_⟩))
  go_ret
  exact ⟨zE, zB⟩
 ·replace c3 := Bool.eq_false_iff.mpr c3; subst c3; replace H := zN H
  replace H := zO H; obtain ⟨t119, A7, H⟩ := H
  replace H := zO H; obtain ⟨t122, A8, H⟩ := H
  obtain rfl := Option.some.inj H
  go_enter Try.func95, Try.ntmps95
  go_wp2_with (first | ((with_reducible refine gate_dst (N := 3) rfl ?_); refine Kd.R_lit Kd.string _ 9 ?hg (N := 3) ?hd (xs := ([(⟨#[66, 69, 71, 73, 78]⟩ : ByteArray), (⟨#[112, 114, 105, 110, 116]⟩ : ByteArray), (⟨#[105, 102]⟩ : ByteArray), (⟨#[101, 108, 115, 101]⟩ : ByteArray), (⟨#[119, 104, 105, 108, 101]⟩ : ByteArray), (⟨#[110, 101, 120, 116]⟩ : ByteArray), (⟨#[100, 101, 108, 101, 116, 101]⟩ : ByteArray), (⟨#[78, 82]⟩ : ByteArray), (⟨#[78, 70]⟩ : ByteArray)] : List ByteArray)) (inner := [.string (⟨#[66, 69, 71, 73, 78]⟩ : ByteArray), .string (⟨#[112, 114, 105, 110, 116]⟩ : ByteArray), .string (⟨#[105, 102]⟩ : ByteArray), .string (⟨#[101, 108, 115, 101]⟩ : ByteArray), .string (⟨#[119, 104, 105, 108, 101]⟩ : ByteArray), .string (⟨#[110, 101, 120, 116]⟩ : ByteArray), .string (⟨#[100, 101, 108, 101, 116, 101]⟩ : ByteArray), .string (⟨#[78, 82]⟩ : ByteArray), .string (⟨#[78, 70]⟩ : ByteArray)]) (ok := fun _ => True) (okp := fun _ => True) ?hr ?hp (fun _ hk => hk) trivial (Below.refl _ _) (Nat.le_refl _) (by simp) ?_; (case hd => rfl); (case hg => rfl); (case hr => first | (go_simp; done) | (go_simp; rfl)); (case hp => exact (Reps.one (show Kd.M Kd.string _ _ _ (⟨#[66, 69, 71, 73, 78]⟩ : ByteArray) [.string (⟨#[66, 69, 71, 73, 78]⟩ : ByteArray)] from rfl) (Reps.one (show Kd.M Kd.string _ _ _ (⟨#[112, 114, 105, 110, 116]⟩ : ByteArray) [.string (⟨#[112, 114, 105, 110, 116]⟩ : ByteArray)] from rfl) (Reps.one (show Kd.M Kd.string _ _ _ (⟨#[105, 102]⟩ : ByteArray) [.string (⟨#[105, 102]⟩ : ByteArray)] from rfl) (Reps.one (show Kd.M Kd.string _ _ _ (⟨#[101, 108, 115, 101]⟩ : ByteArray) [.string (⟨#[101, 108, 115, 101]⟩ : ByteArray)] from rfl) (Reps.one (show Kd.M Kd.string _ _ _ (⟨#[119, 104, 105, 108, 101]⟩ : ByteArray) [.string (⟨#[119, 104, 105, 108, 101]⟩ : ByteArray)] from rfl) (Reps.one (show Kd.M Kd.string _ _ _ (⟨#[110, 101, 120, 116]⟩ : ByteArray) [.string (⟨#[110, 101, 120, 116]⟩ : ByteArray)] from rfl) (Reps.one (show Kd.M Kd.string _ _ _ (⟨#[100, 101, 108, 101, 116, 101]⟩ : ByteArray) [.string (⟨#[100, 101, 108, 101, 116, 101]⟩ : ByteArray)] from rfl) (Reps.one (show Kd.M Kd.string _ _ _ (⟨#[78, 82]⟩ : ByteArray) [.string (⟨#[78, 82]⟩ : ByteArray)] from rfl) (Reps.one (show Kd.M Kd.string _ _ _ (⟨#[78, 70]⟩ : ByteArray) [.string (⟨#[78, 70]⟩ : ByteArray)] from rfl) (Reps.none _ _))))))))))); intro v116 w9 ho10 hb hg_ hnew_; clear hg_ hnew_; (first | rw [← Ny115.out] at ho10 | (simp only [Int.reduceToNat] at ho10; rw [← Ny115.out] at ho10)); have n_ := z2 (Kd.R_lower ho10 (below_size zB)) (zs hb); clear HB; obtain ⟨HO117, HB⟩ := n_; clear hb ho10; obtain ⟨Ao11, co11, eo11⟩ := Kd.R_slice HO117.out; subst eo11) | ((with_reducible refine gate_callee (f := 57) rfl ?_); refine zG (some 5) Try.func57 #[.slice Ao11 y115.length co11, .string a0] ?_; (with_reducible refine (spec_l7Within.calls k _ _ y115 a0 false _ ?side1 ?side2 A2.out).mono ?_); (case side1 => repeat (first | exact (Kd.R_reads' HO117.out).2.2 | (with_reducible refine Kd.C_alloc ?_ _) | (with_reducible refine Kd.C_drewN ?_ _) | (with_reducible refine Kd.C_drew ?_))); (case side2 => exact (Kd.R_reads' HO117.out).2.1); rintro e w' ⟨rfl, ⟨nd, rfl⟩⟩; refine ⟨_, rfl, ?_⟩) | (go_at_call 77; (with_reducible refine (spec_l7Calls.calls  t119 _ A7.out).mono ?_); rintro e w12 ⟨v120, rfl, ho0, hb⟩; have n_ := z3 (Kd.R_elder' (by (with_reducible repeat (first | apply Kd.R_alloc | apply Kd.R_drewN | apply Kd.R_drew)); exact HO117.out) (Kd.R_base ho0) hb) (Kd.R_lower (Kd.R_new' ho0 (Kd.R_lt (by (with_reducible repeat (first | apply Kd.R_alloc | apply Kd.R_drewN | apply Kd.R_drew)); exact HO117.out))) (below_size zB)) (zs hb); clear HO117 HB; obtain ⟨HO117, HO121, HB⟩ := n_; (try clear hb); (try clear ho0); obtain ⟨Ao13, co13, eo13⟩ := Kd.R_slice HO121.out; subst eo13) | (go_at_call 57; (with_reducible refine (spec_l7Within.calls k _ _ t119 a0 t122 _ ?side1 ?side2 A8.out).mono ?_); (case side1 => repeat (first | exact (Kd.R_reads' HO121.out).2.2 | (with_reducible refine Kd.C_alloc ?_ _) | (with_reducible refine Kd.C_drewN ?_ _) | (with_reducible refine Kd.C_drew ?_))); (case side2 => exact (Kd.R_reads' HO121.out).2.1); rintro e w' ⟨rfl, ⟨nd, rfl⟩⟩))
  go_ret
  exact ⟨zE, zB⟩

/-! ### spec_l9Name: function 56 -/
theorem spec_l9Name.calls (k : Nat) (a0 : ByteArray) (r : Bool) (w : World) (h : spec_l9Name.f k a0 = some r) :
  Calls Try.prog 56 #[.string a0] w fun e w' => e = .returned (.bool r) ∧ Below w.heap.size w w' := by
 have HB := Aside0.mk (Below.refl w.heap.size w)
 rw [spec_l9Name.f] at h
 have H := h
 clear h
 have H' := Aside0.mk H
 clear H
 go_enter Try.func56, Try.ntmps56
 go_wp2
 go_loopg [3] k (fun kq v3 w' => ∃ (x3_1 : Int), v3 = .int .i64 x3_1 ∧ Aside0 (spec_l9Name.l0 kq a0 x3_1 = some r) ∧ Aside0 (kq ≤ k) ∧ Aside0 (Below w.heap.size w w'))
 case atStart => exact ⟨(0), zS, H', ⟨Nat.le_refl _⟩, ⟨zB⟩⟩
 case round =>
  clear H'
  obtain ⟨x3_1, rfl, HA, HK1, HB⟩ := hrel
  cases gk with
  | zero => exact absurd HA.out (by simp [spec_l9Name.l0])
  | succ k1 =>
   have H := HA.out
   clear HA
   simp only [spec_l9Name.l0] at H
   replace H := zI H; obtain ⟨c2, H⟩ | ⟨c2, H⟩ := H
   ·have c2b0 := decide_eq_true c2
    clear c2
    replace H := zI H; obtain ⟨c3, H⟩ | ⟨c3, H⟩ := H
    ·have c3b0 := decide_eq_true c3
     clear c3
     replace H := zO H; obtain ⟨t123, A5, H⟩ := H
     by_cases c6 : t123 = true
     ·subst c6; replace H := zT H
      have H' := Aside0.mk H
      clear H
      have p4 : 0 ≤ (x3_1 : Int) := zW
      have q4 : x3_1 < (a0.size : Int) := zW
      have hx4 := bt_at a0 x3_1
      replace p4 := eq_true p4
      replace q4 := eq_true q4
      go_wp2_with (first | ((with_reducible refine gate_callee (f := 94) rfl ?_); refine zG (some 13) Try.func94 #[.int .u8 (bt a0 x3_1)] ?_; (with_reducible refine (spec_l7Letter.calls (bt a0 x3_1) true _ A5.out).mono ?_); rintro e w' ⟨rfl, ⟨nd, rfl⟩⟩; refine ⟨_, rfl, ?_⟩))
      go_roundg k1
      case measure => have := HK1.out; omega
      case rel => exact ⟨(wrap64 (x3_1 + 1)), zS, H', ⟨by have := HK1.out; omega⟩, ⟨zB⟩⟩
     ·replace c6 := Bool.eq_false_iff.mpr c6; subst c6; replace H := zN H
      obtain rfl := Option.some.inj H
      have p4 : 0 ≤ (x3_1 : Int) := zW
      have q4 : x3_1 < (a0.size : Int) := zW
      have hx4 := bt_at a0 x3_1
      replace p4 := eq_true p4
      replace q4 := eq_true q4
      go_wp2_with (first | ((with_reducible refine gate_callee (f := 94) rfl ?_); refine zG (some 13) Try.func94 #[.int .u8 (bt a0 x3_1)] ?_; (with_reducible refine (spec_l7Letter.calls (bt a0 x3_1) false _ A5.out).mono ?_); rintro e w' ⟨rfl, ⟨nd, rfl⟩⟩; refine ⟨_, rfl, ?_⟩))
      go_ret
      exact ⟨zE, zB⟩
    ·exact absurd H (by simp)
   ·have c2b0 := decide_eq_false c2
    clear c2
    replace H := zO H; obtain ⟨t124, A7, H⟩ := H
    by_cases c8 : t124 = true
    ·subst c8; replace H := zT H
     replace H := zO H; obtain ⟨t125, A9, H⟩ := H
     obtain rfl := Option.some.inj H
     go_wp2_with (first | ((with_reducible refine gate_callee (f := 33) rfl ?_); refine zG (some 17) Try.func33 #[.int .i64 (a0.size : Int), .int .i64 1, .int .i64 8] ?_; (with_reducible refine (spec_l1In.calls (a0.size : Int) 1 8 true _ A7.out).mono ?_); rintro e w' ⟨rfl, ⟨nd, rfl⟩⟩; refine ⟨_, rfl, ?_⟩) | (go_at_call 95; (with_reducible refine (spec_Keyword.calls k1 a0 t125 _ A9.out).mono ?_); rintro e w10 ⟨rfl, hb⟩; have n_ := Aside0.mk (zs hb); clear HB; have HB := n_; clear n_; (try clear hb)))
     go_ret
     exact ⟨zE, zB⟩
    ·replace c8 := Bool.eq_false_iff.mpr c8; subst c8; replace H := zN H
     obtain rfl := Option.some.inj H
     go_wp2_with (first | ((with_reducible refine gate_callee (f := 33) rfl ?_); refine zG (some 17) Try.func33 #[.int .i64 (a0.size : Int), .int .i64 1, .int .i64 8] ?_; (with_reducible refine (spec_l1In.calls (a0.size : Int) 1 8 false _ A7.out).mono ?_); rintro e w' ⟨rfl, ⟨nd, rfl⟩⟩; refine ⟨_, rfl, ?_⟩))
     go_ret
     exact ⟨zE, zB⟩

/-! ### spec_l9Line: function 75 -/
theorem spec_l9Line.calls (k : Nat) (a0 : ByteArray) (r : Bool) (w : World) (h : spec_l9Line.f k a0 = some r) :
  Calls Try.prog 75 #[.string a0] w fun e w' => e = .returned (.bool r) ∧ Drawn0 w w' := by
 rw [spec_l9Line.f] at h
 have H := h
 clear h
 have H' := Aside0.mk H
 clear H
 go_enter Try.func75, Try.ntmps75
 go_wp2
 go_loopg [3] k (fun kq v3 w' => ∃ (x3_1 : Int), v3 = .int .i64 x3_1 ∧ Aside0 (spec_l9Line.l0 kq a0 x3_1 = some r) ∧ Aside0 (kq ≤ k) ∧ Drawn0 w w')
 case atStart => exact ⟨(0), zS, H', ⟨Nat.le_refl _⟩, by repeat (first | exact Drawn0.refl _ | apply Drawn0.step)⟩
 case round =>
  clear H'
  obtain ⟨x3_1, rfl, HA, HK1, ⟨m1, rfl⟩⟩ := hrel
  cases gk with
  | zero => exact absurd HA.out (by simp [spec_l9Line.l0])
  | succ k1 =>
   have H := HA.out
   clear HA
   simp only [spec_l9Line.l0] at H
   replace H := zI H; obtain ⟨c2, H⟩ | ⟨c2, H⟩ := H
   ·have c2b0 := decide_eq_true c2
    clear c2
    replace H := zI H; obtain ⟨c3, H⟩ | ⟨c3, H⟩ := H
    ·have c3b0 := decide_eq_true c3
     clear c3
     replace H := zI H; obtain ⟨c5, H⟩ | ⟨c5, H⟩ := H
     ·have c5b0 := beq_iff_eq.mpr c5
      have c5b1 := bne_eq_false_iff_eq.mpr c5
      clear c5
      obtain rfl := Option.some.inj H
      have p4 : 0 ≤ (x3_1 : Int) := zW
      have q4 : x3_1 < (a0.size : Int) := zW
      have hx4 := bt_at a0 x3_1
      replace p4 := eq_true p4
      replace q4 := eq_true q4
      go_wp2
      go_ret
      exact ⟨by first | rfl | (simp; done) | (simp [*]; done) | (simp [Int.tdiv_eq_ediv_of_nonneg]; done), by repeat (first | exact Drawn0.refl _ | apply Drawn0.step)⟩
     ·have c5b0 := beq_eq_false_iff_ne.mpr c5
      have c5b1 := bne_iff_ne.mpr c5
      have H' := Aside0.mk H
      clear H
      have p4 : 0 ≤ (x3_1 : Int) := zW
      have q4 : x3_1 < (a0.size : Int) := zW
      have hx4 := bt_at a0 x3_1
      replace p4 := eq_true p4
      replace q4 := eq_true q4
      go_wp2
      go_roundg k1
      case measure => have := HK1.out; omega
      case rel => exact ⟨(wrap64 (x3_1 + 1)), zS, H', ⟨by have := HK1.out; omega⟩, by repeat (first | exact Drawn0.refl _ | apply Drawn0.step)⟩
    ·exact absurd H (by simp)
   ·have c2b0 := decide_eq_false c2
    clear c2
    obtain rfl := Option.some.inj H
    go_wp2
    go_ret
    exact ⟨by first | rfl | (simp; done) | (simp [*]; done) | (simp [Int.tdiv_eq_ediv_of_nonneg]; done), by repeat (first | exact Drawn0.refl _ | apply Drawn0.step)⟩

/-! ### spec_l9Rex: function 76 -/
theorem spec_l9Rex.calls (k : Nat) (a0 : ByteArray) (r : Bool) (w : World) (h : spec_l9Rex.f k a0 = some r) :
  Calls Try.prog 76 #[.string a0] w fun e w' => e = .returned (.bool r) ∧ Drawn0 w w' := by
 rw [spec_l9Rex.f] at h
 have H := h
 clear h
 have H' := Aside0.mk H
 clear H
 go_enter Try.func76, Try.ntmps76
 go_wp2
 go_loopg [3] k (fun kq v3 w' => ∃ (x3_1 : Int), v3 = .int .i64 x3_1 ∧ Aside0 (spec_l9Rex.l0 kq a0 x3_1 = some r) ∧ Aside0 (kq ≤ k) ∧ Drawn0 w w')
 case atStart => exact ⟨(0), zS, H', ⟨Nat.le_refl _⟩, by repeat (first | exact Drawn0.refl _ | apply Drawn0.step)⟩
 case round =>
  clear H'
  obtain ⟨x3_1, rfl, HA, HK1, ⟨m1, rfl⟩⟩ := hrel
  cases gk with
  | zero => exact absurd HA.out (by simp [spec_l9Rex.l0])
  | succ k1 =>
   have H := HA.out
   clear HA
   simp only [spec_l9Rex.l0] at H
   replace H := zI H; obtain ⟨c2, H⟩ | ⟨c2, H⟩ := H
   ·have c2b0 := decide_eq_true c2
    clear c2
    replace H := zI H; obtain ⟨c3, H⟩ | ⟨c3, H⟩ := H
    ·have c3b0 := decide_eq_true c3
     clear c3
     replace H := zI H; obtain ⟨c5, H⟩ | ⟨c5, H⟩ := H
     ·have c5b0 := beq_iff_eq.mpr c5
      have c5b1 := bne_eq_false_iff_eq.mpr c5
      clear c5
      replace H := zI H; obtain ⟨c6, H⟩ | ⟨c6, H⟩ := H
      ·have c6b0 := beq_iff_eq.mpr c6
       have c6b1 := bne_eq_false_iff_eq.mpr c6
       clear c6
       obtain rfl := Option.some.inj H
       have p4 : 0 ≤ (x3_1 : Int) := zW
       have q4 : x3_1 < (a0.size : Int) := zW
       have hx4 := bt_at a0 x3_1
       replace p4 := eq_true p4
       replace q4 := eq_true q4
       go_wp2
       go_ret
       exact ⟨by first | rfl | (simp; done) | (simp [*]; done) | (simp [Int.tdiv_eq_ediv_of_nonneg]; done), by repeat (first | exact Drawn0.refl _ | apply Drawn0.step)⟩
      ·have c6b0 := beq_eq_false_iff_ne.mpr c6
       have c6b1 := bne_iff_ne.mpr c6
       obtain ⟨ji7, hji7⟩ : ∃ j_ : Int, (wrap64 (x3_1 + 1)) = j_ := ⟨_, rfl⟩
       replace H : (if 0 ≤ (ji7) then (if (ji7) < (a0.size : Int) then (if (bt a0 (ji7)) = 47 then (some false) else (spec_l9Rex.l0 k1 a0 (wrap64 ((ji7) + 1)))) else (none)) else (none)) = some r := by first | (rw [hji7] at H; exact H) | (simp only [hji7] at H ⊢; exact H)
       (try rw [hji7] at c6b0)
       (try rw [hji7] at c6b1)
       have hji7w : (IntKind.i64.wrap (x3_1 + 1)) = ji7 := (i64_w _).trans hji7
       replace H := zI H; obtain ⟨c8, H⟩ | ⟨c8, H⟩ := H
       ·have c8b0 := decide_eq_true c8
        clear c8
        replace H := zI H; obtain ⟨c9, H⟩ | ⟨c9, H⟩ := H
        ·have c9b0 := decide_eq_true c9
         clear c9
         replace H := zI H; obtain ⟨c11, H⟩ | ⟨c11, H⟩ := H
         ·have c11b0 := beq_iff_eq.mpr c11
          have c11b1 := bne_eq_false_iff_eq.mpr c11
          clear c11
          obtain rfl := Option.some.inj H
          have p4 : 0 ≤ (x3_1 : Int) := zW
          have q4 : x3_1 < (a0.size : Int) := zW
          have hx4 := bt_at a0 x3_1
          replace p4 := eq_true p4
          replace q4 := eq_true q4
          have p10 : 0 ≤ ((ji7) : Int) := zW
          have q10 : (ji7) < (a0.size : Int) := zW
          have hx10 := bt_at a0 (ji7)
          replace p10 := eq_true p10
          replace q10 := eq_true q10
          go_wp2
          go_ret
          exact ⟨by first | rfl | (simp; done) | (simp only [← hji7] <;> (first | rfl | simp)) | (simp [*]; done), by repeat (first | exact Drawn0.refl _ | apply Drawn0.step)⟩
         ·have c11b0 := beq_eq_false_iff_ne.mpr c11
          have c11b1 := bne_iff_ne.mpr c11
          have H' := Aside0.mk H
          clear H
          have p4 : 0 ≤ (x3_1 : Int) := zW
          have q4 : x3_1 < (a0.size : Int) := zW
          have hx4 := bt_at a0 x3_1
          replace p4 := eq_true p4
          replace q4 := eq_true q4
          have p10 : 0 ≤ ((ji7) : Int) := zW
          have q10 : (ji7) < (a0.size : Int) := zW
          have hx10 := bt_at a0 (ji7)
          replace p10 := eq_true p10
          replace q10 := eq_true q10
          go_wp2
          go_roundg k1
          case measure => have := HK1.out; omega
          case rel => exact ⟨(wrap64 ((ji7) + 1)), (by first | rfl | (simp; done) | (simp only [← hji7] <;> (first | rfl | simp)) | (simp [*]; done)), H', ⟨by have := HK1.out; omega⟩, by repeat (first | exact Drawn0.refl _ | apply Drawn0.step)⟩
        ·exact absurd H (by simp)
       ·exact absurd H (by simp)
     ·have c5b0 := beq_eq_false_iff_ne.mpr c5
      have c5b1 := bne_iff_ne.mpr c5
      have H' := Aside0.mk H
      clear H
      have p4 : 0 ≤ (x3_1 : Int) := zW
      have q4 : x3_1 < (a0.size : Int) := zW
      have hx4 := bt_at a0 x3_1
      replace p4 := eq_true p4
      replace q4 := eq_true q4
      go_wp2
      go_roundg k1
      case measure => have := HK1.out; omega
      case rel => exact ⟨(wrap64 (x3_1 + 1)), zS, H', ⟨by have := HK1.out; omega⟩, by repeat (first | exact Drawn0.refl _ | apply Drawn0.step)⟩
    ·exact absurd H (by simp)
   ·have c2b0 := decide_eq_false c2
    clear c2
    replace H := zO H; obtain ⟨t126, A12, H⟩ := H
    obtain rfl := Option.some.inj H
    go_wp2_with (first | ((with_reducible refine gate_callee (f := 75) rfl ?_); refine zG (some 27) Try.func75 #[.string a0] ?_; (with_reducible refine (spec_l9Line.calls k1 a0 t126 _ A12.out).mono ?_); rintro e w' ⟨rfl, ⟨nd, rfl⟩⟩; refine ⟨_, rfl, ?_⟩))
    go_ret
    exact ⟨by first | rfl | (simp; done) | (simp [*]; done) | (simp [Int.tdiv_eq_ediv_of_nonneg]; done), by repeat (first | exact Drawn0.refl _ | apply Drawn0.step)⟩

/-! ### spec_l9Es: function 110 -/
/-! ### spec_l9Blocks: function 111 -/
/-! ### spec_l9Kids: function 74 -/
/-! ### spec_l9Node: function 35 -/
end Go.Proofs.Ythigelphmjepaaa.QFnExactTidy
