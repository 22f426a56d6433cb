/- Written by wip/pr2, a program of this session. -/
import Derived.Test.YtelaipnanpfniaaDoorQFnTokensx0
import Derived.Test.YtelaipnanpfniaaDoorQFnTokensx2
import Derived.Test.YtelaipnanpfniaaDoorQFnTokensx7
namespace Go.Proofs.YtelaipnanpfniaaDoor.QFnTokens
open Go.RowKit Go.Proofs.YtelaipnanpfniaaDoorW.PrintWords Go.Proofs.YtelaipnanpfniaaDoorW.PrintLast Go.Proofs.YtelaipnanpfniaaDoorW.PrintMore
attribute [local go_sem] max2_int min2_int max_two min_two max_three min_three max_four min_four   -- for this text's walks alone
set_option linter.unusedVariables false
set_option linter.unusedSimpArgs false
set_option maxHeartbeats 8000000

/-! ### spec_DecFront: function 49 -/
set_option maxHeartbeats 8000000 in
set_option maxRecDepth 100000 in
theorem spec_DecFront.calls (k : Nat) (a0 : ByteArray) (r1 : Int) (r2 : Int) (w : World) (h : spec_DecFront.f k a0 = some (r1, r2)) :
    Calls Tryd.prog 49 #[.string a0] w fun e w' => e = .returned (.tuple #[.int .i64 r1, .int .i64 r2]) ∧ Drawn0 w w' := by
  have H : (spec_DecFront.l0 k a0 0) = some (r1, r2) := h
  clear h
  have HC2 := Aside0.mk H
  clear H
  go_enter Tryd.func49, Tryd.ntmps49
  go_upto_block 0 with (fail)
  go_cut [4] (fun v4 wc => ∃ (kq : Nat) (x4_1 : Int), v4 = .int .i64 x4_1 ∧ Aside0 (spec_DecFront.j1 kq a0 x4_1 = some (r1, r2)) ∧ Aside0 (kq ≤ k) ∧ Drawn0 w wc)
  case first =>
    have H := HC2.out
    clear HC2
    have H' := Aside0.mk H
    clear H
    go_wp2
    go_loopg [4] k (fun kq v4 w' => ∃ (x4_1 : Int), v4 = .int .i64 x4_1 ∧ Aside0 (spec_DecFront.l0 kq a0 x4_1 = some (r1, r2)) ∧ Aside0 (kq ≤ k) ∧ Drawn0 w w')
    case atStart => exact ⟨(0), (by first | rfl | (simp; done) | (simp [*]; done) | (simp [Int.tdiv_eq_ediv_of_nonneg]; done)), H', ⟨Nat.le_refl _⟩, by repeat (first | exact Drawn0.refl _ | apply Drawn0.step)⟩
    case round =>
      clear H'
      try clear p2
      obtain ⟨x4_1, rfl, HA, HK1, ⟨m1, rfl⟩⟩ := hrel
      cases gk with
      | zero => exact absurd HA.out (by simp [spec_DecFront.l0])
      | succ k1 =>
        have H := HA.out
        clear HA
        simp only [spec_DecFront.l0] at H
        by_cases c3 : x4_1 < (a0.size : Int)
        · rw [if_pos c3] at H
          have c3b0 : decide (x4_1 < (a0.size : Int)) = true := decide_eq_true c3
          clear c3
          (first | rw [c3b0] | (simp only [i64_w, i32_w]; rw [c3b0]) | skip)
          by_cases c4 : 0 ≤ x4_1
          · rw [if_pos c4] at H
            have c4b0 : decide (0 ≤ x4_1) = true := decide_eq_true c4
            clear c4
            by_cases c6 : (bt a0 x4_1) = 32
            · rw [if_pos c6] at H
              have c6b0 : ((bt a0 x4_1) == 32) = true := beq_iff_eq.mpr c6
              have c6b1 : ((bt a0 x4_1) != 32) = false := bne_eq_false_iff_eq.mpr c6
              clear c6
              have H' := Aside0.mk H
              clear H
              have p5 : 0 ≤ (x4_1 : Int) := of_decide_eq_true (by first | (with_reducible assumption) | assumption)
              have q5 : x4_1 < (a0.size : Int) := of_decide_eq_true (by first | (with_reducible assumption) | assumption)
              have hx5 := bt_at a0 x4_1
              replace p5 := eq_true p5
              replace q5 := eq_true q5
              go_wp2
              go_roundg k1
              case measure => have := HK1.out; omega
              case rel => exact ⟨(wrap64 (x4_1 + 1)), (by first | rfl | (simp; done) | (simp [*]; done) | (simp [Int.tdiv_eq_ediv_of_nonneg]; done)), (by first | exact H' | ((repeat (first | rw [hji35])); exact H')), ⟨by have := HK1.out; omega⟩, by repeat (first | exact Drawn0.refl _ | apply Drawn0.step)⟩
            · rw [if_neg c6] at H
              have c6b0 : ((bt a0 x4_1) == 32) = false := beq_eq_false_iff_ne.mpr c6
              have c6b1 : ((bt a0 x4_1) != 32) = true := bne_iff_ne.mpr c6
              have H' := Aside0.mk H
              clear H
              have p5 : 0 ≤ (x4_1 : Int) := of_decide_eq_true (by first | (with_reducible assumption) | assumption)
              have q5 : x4_1 < (a0.size : Int) := of_decide_eq_true (by first | (with_reducible assumption) | assumption)
              have hx5 := bt_at a0 x4_1
              replace p5 := eq_true p5
              replace q5 := eq_true q5
              go_wp2
              go_meet
              case rel => exact ⟨_, (x4_1), (by first | rfl | (simp; done) | (simp [*]; done) | (simp [Int.tdiv_eq_ediv_of_nonneg]; done)), (by first | exact H' | ((repeat (first | rw [hji35])); exact H')), ⟨by have := HK1.out; first | omega | exact Nat.le_refl _⟩, by repeat (first | exact Drawn0.refl _ | apply Drawn0.step)⟩
          · rw [if_neg c4] at H
            exact absurd H (by simp)
        · rw [if_neg c3] at H
          have c3b0 : decide (x4_1 < (a0.size : Int)) = false := decide_eq_false c3
          clear c3
          (first | rw [c3b0] | (simp only [i64_w, i32_w]; rw [c3b0]) | skip)
          have H' := Aside0.mk H
          clear H
          go_wp2
          go_meet
          case rel => exact ⟨_, (x4_1), (by first | rfl | (simp; done) | (simp [*]; done) | (simp [Int.tdiv_eq_ediv_of_nonneg]; done)), (by first | exact H' | ((repeat (first | rw [hji35])); exact H')), ⟨by have := HK1.out; first | omega | exact Nat.le_refl _⟩, by repeat (first | exact Drawn0.refl _ | apply Drawn0.step)⟩
  case rest =>
    clear HC2
    try clear p2
    try clear c3
    try clear c3b0
    try clear c4
    try clear c4b0
    try clear p5
    try clear q5
    try clear hx5
    try clear c6
    try clear c6b0
    try clear c6b1
    try clear p6
    try clear p2
    try clear p5
    try clear q5
    obtain ⟨kq, x4_1, rfl, HA, HJ1, ⟨mc1, rfl⟩⟩ := hcut
    cases kq with
    | zero => exact absurd HA.out (by simp [spec_DecFront.j1])
    | succ kj1 =>
      have H := HA.out
      clear HA
      simp only [spec_DecFront.j1] at H
      have HC7 := Aside0.mk H
      clear H
      go_upto_region 4 with (fail)
      go_cut [5] (fun v5 wc => ∃ (kq : Nat) (x5_6 : Bool), v5 = .bool x5_6 ∧ Aside0 (spec_DecFront.j2 kq a0 x4_1 x5_6 = some (r1, r2)) ∧ Aside0 (kq ≤ kj1) ∧ Drawn0 w wc)
      case first =>
        have H := HC7.out
        clear HC7
        by_cases c8 : x4_1 < (a0.size : Int)
        · rw [if_pos c8] at H
          have c8b0 : decide (x4_1 < (a0.size : Int)) = true := decide_eq_true c8
          clear c8
          (first | rw [c8b0] | (simp only [i64_w, i32_w]; rw [c8b0]) | skip)
          by_cases c9 : 0 ≤ x4_1
          · rw [if_pos c9] at H
            have c9b0 : decide (0 ≤ x4_1) = true := decide_eq_true c9
            clear c9
            have H' := Aside0.mk H
            clear H
            have p10 : 0 ≤ (x4_1 : Int) := of_decide_eq_true (by first | (with_reducible assumption) | assumption)
            have q10 : x4_1 < (a0.size : Int) := of_decide_eq_true (by first | (with_reducible assumption) | assumption)
            have hx10 := bt_at a0 x4_1
            replace p10 := eq_true p10
            replace q10 := eq_true q10
            go_wp2
            go_meet
            case rel => exact ⟨_, (((bt a0 x4_1) == 45)), (by first | rfl | (simp; done) | (simp [*]; done) | (simp [Int.tdiv_eq_ediv_of_nonneg]; done)), (by first | exact H' | ((repeat (first | rw [hji35])); exact H')), ⟨by have := HJ1.out; first | omega | exact Nat.le_refl _⟩, by repeat (first | exact Drawn0.refl _ | apply Drawn0.step)⟩
          · rw [if_neg c9] at H
            exact absurd H (by simp)
        · rw [if_neg c8] at H
          have c8b0 : decide (x4_1 < (a0.size : Int)) = false := decide_eq_false c8
          clear c8
          (first | rw [c8b0] | (simp only [i64_w, i32_w]; rw [c8b0]) | skip)
          have H' := Aside0.mk H
          clear H
          go_wp2
          go_meet
          case rel => exact ⟨_, (false), (by first | rfl | (simp; done) | (simp [*]; done) | (simp [Int.tdiv_eq_ediv_of_nonneg]; done)), (by first | exact H' | ((repeat (first | rw [hji35])); exact H')), ⟨by have := HJ1.out; first | omega | exact Nat.le_refl _⟩, by repeat (first | exact Drawn0.refl _ | apply Drawn0.step)⟩
      case rest =>
        clear HC7
        try clear c1
        try clear p1
        try clear q1
        try clear hx1
        try clear p2
        try clear c3
        try clear c3b0
        try clear c4
        try clear c4b0
        try clear p5
        try clear q5
        try clear hx5
        try clear c6
        try clear c6b0
        try clear c6b1
        try clear p6
        try clear c8
        try clear c8b0
        try clear c9
        try clear c9b0
        try clear p10
        try clear q10
        try clear hx10
        try clear p10
        try clear p2
        try clear p5
        try clear p6
        try clear q10
        try clear q5
        obtain ⟨kq, x5_6, rfl, HA, HJ6, ⟨mc6, rfl⟩⟩ := hcut
        cases kq with
        | zero => exact absurd HA.out (by simp [spec_DecFront.j2])
        | succ kj6 =>
          have H := HA.out
          clear HA
          simp only [spec_DecFront.j2] at H
          have HC11 := Aside0.mk H
          clear H
          go_upto_region 5 with (fail)
          go_cut [46] (fun v46 wc => ∃ (kq : Nat) (x46_10 : Bool), v46 = .bool x46_10 ∧ Aside0 (spec_DecFront.j3 kq a0 x4_1 x5_6 x46_10 = some (r1, r2)) ∧ Aside0 (kq ≤ kj6) ∧ Drawn0 w wc)
          case first =>
            have H := HC11.out
            clear HC11
            by_cases c12 : x4_1 < (a0.size : Int)
            · rw [if_pos c12] at H
              have c12b0 : decide (x4_1 < (a0.size : Int)) = true := decide_eq_true c12
              clear c12
              (first | rw [c12b0] | (simp only [i64_w, i32_w]; rw [c12b0]) | skip)
              by_cases c13 : 0 ≤ x4_1
              · rw [if_pos c13] at H
                have c13b0 : decide (0 ≤ x4_1) = true := decide_eq_true c13
                clear c13
                by_cases c15 : (bt a0 x4_1) = 45
                · rw [if_pos c15] at H
                  have c15b0 : ((bt a0 x4_1) == 45) = true := beq_iff_eq.mpr c15
                  have c15b1 : ((bt a0 x4_1) != 45) = false := bne_eq_false_iff_eq.mpr c15
                  clear c15
                  have H' := Aside0.mk H
                  clear H
                  have p14 : 0 ≤ (x4_1 : Int) := of_decide_eq_true (by first | (with_reducible assumption) | assumption)
                  have q14 : x4_1 < (a0.size : Int) := of_decide_eq_true (by first | (with_reducible assumption) | assumption)
                  have hx14 := bt_at a0 x4_1
                  replace p14 := eq_true p14
                  replace q14 := eq_true q14
                  go_wp2
                  go_meet
                  case rel => exact ⟨_, (true), (by first | rfl | (simp; done) | (simp [*]; done) | (simp [Int.tdiv_eq_ediv_of_nonneg]; done)), (by first | exact H' | ((repeat (first | rw [hji35])); exact H')), ⟨by have := HJ1.out; have := HJ6.out; first | omega | exact Nat.le_refl _⟩, by repeat (first | exact Drawn0.refl _ | apply Drawn0.step)⟩
                · rw [if_neg c15] at H
                  have c15b0 : ((bt a0 x4_1) == 45) = false := beq_eq_false_iff_ne.mpr c15
                  have c15b1 : ((bt a0 x4_1) != 45) = true := bne_iff_ne.mpr c15
                  have H' := Aside0.mk H
                  clear H
                  have p14 : 0 ≤ (x4_1 : Int) := of_decide_eq_true (by first | (with_reducible assumption) | assumption)
                  have q14 : x4_1 < (a0.size : Int) := of_decide_eq_true (by first | (with_reducible assumption) | assumption)
                  have hx14 := bt_at a0 x4_1
                  replace p14 := eq_true p14
                  replace q14 := eq_true q14
                  have p16 : 0 ≤ (x4_1 : Int) := of_decide_eq_true (by first | (with_reducible assumption) | assumption)
                  have q16 : x4_1 < (a0.size : Int) := of_decide_eq_true (by first | (with_reducible assumption) | assumption)
                  have hx16 := bt_at a0 x4_1
                  replace p16 := eq_true p16
                  replace q16 := eq_true q16
                  go_wp2
                  go_meet
                  case rel => exact ⟨_, (((bt a0 x4_1) == 43)), (by first | rfl | (simp; done) | (simp [*]; done) | (simp [Int.tdiv_eq_ediv_of_nonneg]; done)), (by first | exact H' | ((repeat (first | rw [hji35])); exact H')), ⟨by have := HJ1.out; have := HJ6.out; first | omega | exact Nat.le_refl _⟩, by repeat (first | exact Drawn0.refl _ | apply Drawn0.step)⟩
              · rw [if_neg c13] at H
                exact absurd H (by simp)
            · rw [if_neg c12] at H
              have c12b0 : decide (x4_1 < (a0.size : Int)) = false := decide_eq_false c12
              clear c12
              (first | rw [c12b0] | (simp only [i64_w, i32_w]; rw [c12b0]) | skip)
              have H' := Aside0.mk H
              clear H
              go_wp2
              go_meet
              case rel => exact ⟨_, (false), (by first | rfl | (simp; done) | (simp [*]; done) | (simp [Int.tdiv_eq_ediv_of_nonneg]; done)), (by first | exact H' | ((repeat (first | rw [hji35])); exact H')), ⟨by have := HJ1.out; have := HJ6.out; first | omega | exact Nat.le_refl _⟩, by repeat (first | exact Drawn0.refl _ | apply Drawn0.step)⟩
          case rest =>
            clear HC11
            try clear c1
            try clear p1
            try clear q1
            try clear hx1
            try clear p2
            try clear c3
            try clear c3b0
            try clear c4
            try clear c4b0
            try clear p5
            try clear q5
            try clear hx5
            try clear c6
            try clear c6b0
            try clear c6b1
            try clear p6
            try clear c8
            try clear c8b0
            try clear c9
            try clear c9b0
            try clear p10
            try clear q10
            try clear hx10
            try clear c12
            try clear c12b0
            try clear c13
            try clear c13b0
            try clear p14
            try clear q14
            try clear hx14
            try clear c15
            try clear c15b0
            try clear c15b1
            try clear p16
            try clear q16
            try clear hx16
            try clear p1
            try clear p10
            try clear p14
            try clear p16
            try clear p2
            try clear p5
            try clear p6
            try clear q1
            try clear q10
            try clear q14
            try clear q16
            try clear q5
            obtain ⟨kq, x46_10, rfl, HA, HJ10, ⟨mc10, rfl⟩⟩ := hcut
            cases kq with
            | zero => exact absurd HA.out (by simp [spec_DecFront.j3])
            | succ kj10 =>
              have H := HA.out
              clear HA
              simp only [spec_DecFront.j3] at H
              have HC17 := Aside0.mk H
              clear H
              go_upto_if 46 with (fail)
              go_cut [4] (fun v4 wc => ∃ (kq : Nat) (x4_16 : Int), v4 = .int .i64 x4_16 ∧ Aside0 (spec_DecFront.j4 kq a0 x4_16 x5_6 = some (r1, r2)) ∧ Aside0 (kq ≤ kj10) ∧ Drawn0 w wc)
              case first =>
                have H := HC17.out
                clear HC17
                by_cases c18 : x46_10 = true
                · subst c18
                  have H1 : (spec_DecFront.j4 kj10 a0 (wrap64 (x4_1 + 1)) x5_6) = some (r1, r2) := by rw [if_pos rfl] at H; exact H
                  clear H
                  have H := H1
                  clear H1
                  have H' := Aside0.mk H
                  clear H
                  go_wp2
                  go_meet
                  case rel => exact ⟨_, (wrap64 (x4_1 + 1)), (by first | rfl | (simp; done) | (simp [*]; done) | (simp [Int.tdiv_eq_ediv_of_nonneg]; done)), (by first | exact H' | ((repeat (first | rw [hji35])); exact H')), ⟨by have := HJ1.out; have := HJ6.out; have := HJ10.out; first | omega | exact Nat.le_refl _⟩, by repeat (first | exact Drawn0.refl _ | apply Drawn0.step)⟩
                · replace c18 := Bool.eq_false_iff.mpr c18
                  subst c18
                  have H1 : (spec_DecFront.j4 kj10 a0 x4_1 x5_6) = some (r1, r2) := by rw [if_neg (show ¬ (false = true) by decide)] at H; exact H
                  clear H
                  have H := H1
                  clear H1
                  have H' := Aside0.mk H
                  clear H
                  go_wp2
                  go_meet
                  case rel => exact ⟨_, (x4_1), (by first | rfl | (simp; done) | (simp [*]; done) | (simp [Int.tdiv_eq_ediv_of_nonneg]; done)), (by first | exact H' | ((repeat (first | rw [hji35])); exact H')), ⟨by have := HJ1.out; have := HJ6.out; have := HJ10.out; first | omega | exact Nat.le_refl _⟩, by repeat (first | exact Drawn0.refl _ | apply Drawn0.step)⟩
              case rest =>
                clear HC17
                try clear c1
                try clear p1
                try clear q1
                try clear hx1
                try clear p2
                try clear c3
                try clear c3b0
                try clear c4
                try clear c4b0
                try clear p5
                try clear q5
                try clear hx5
                try clear c6
                try clear c6b0
                try clear c6b1
                try clear p6
                try clear c8
                try clear c8b0
                try clear c9
                try clear c9b0
                try clear c10
                try clear p10
                try clear q10
                try clear hx10
                try clear c12
                try clear c12b0
                try clear c13
                try clear c13b0
                try clear p14
                try clear q14
                try clear hx14
                try clear c15
                try clear c15b0
                try clear c15b1
                try clear p16
                try clear q16
                try clear hx16
                try clear c18
                try clear p1
                try clear p10
                try clear p14
                try clear p16
                try clear p2
                try clear p5
                try clear p6
                try clear q1
                try clear q10
                try clear q14
                try clear q16
                try clear q5
                obtain ⟨kq, x4_16, rfl, HA, HJ16, ⟨mc16, rfl⟩⟩ := hcut
                cases kq with
                | zero => exact absurd HA.out (by simp [spec_DecFront.j4])
                | succ kj16 =>
                  have H := HA.out
                  clear HA
                  simp only [spec_DecFront.j4] at H
                  have H' := Aside0.mk H
                  clear H
                  go_wp2
                  go_loopg [4, 6, 7] kj16 (fun kq v4 v6 v7 w' => ∃ (x4_5 : Int) (x6_5 : Int) (x7_5 : Int), v4 = .int .i64 x4_5 ∧ v6 = .int .i64 x6_5 ∧ v7 = .int .i64 x7_5 ∧ Aside0 (spec_DecFront.l1 kq a0 x4_5 x5_6 x6_5 x7_5 = some (r1, r2)) ∧ Aside0 (kq ≤ kj16) ∧ Drawn0 w w')
                  case atStart => exact ⟨(x4_16), (0), (0), (by first | rfl | (simp; done) | (simp [*]; done) | (simp [Int.tdiv_eq_ediv_of_nonneg]; done)), (by first | rfl | (simp; done) | (simp [*]; done) | (simp [Int.tdiv_eq_ediv_of_nonneg]; done)), (by first | rfl | (simp; done) | (simp [*]; done) | (simp [Int.tdiv_eq_ediv_of_nonneg]; done)), H', ⟨Nat.le_refl _⟩, by repeat (first | exact Drawn0.refl _ | apply Drawn0.step)⟩
                  case round =>
                    clear H'
                    try clear c1
                    try clear p1
                    try clear q1
                    try clear hx1
                    try clear p2
                    try clear c3
                    try clear c3b0
                    try clear c4
                    try clear c4b0
                    try clear p5
                    try clear q5
                    try clear hx5
                    try clear c6
                    try clear c6b0
                    try clear c6b1
                    try clear p6
                    try clear c8
                    try clear c8b0
                    try clear c9
                    try clear c9b0
                    try clear c10
                    try clear p10
                    try clear q10
                    try clear hx10
                    try clear c12
                    try clear c12b0
                    try clear c13
                    try clear c13b0
                    try clear p14
                    try clear q14
                    try clear hx14
                    try clear c15
                    try clear c15b0
                    try clear c15b1
                    try clear c16
                    try clear p16
                    try clear q16
                    try clear hx16
                    try clear c18
                    try clear p1
                    try clear p10
                    try clear p14
                    try clear p16
                    try clear p2
                    try clear p5
                    try clear p6
                    try clear q1
                    try clear q10
                    try clear q14
                    try clear q16
                    try clear q5
                    obtain ⟨x4_5, x6_5, x7_5, rfl, rfl, rfl, HA, HK5, ⟨m5, rfl⟩⟩ := hrel
                    cases gk with
                    | zero => exact absurd HA.out (by simp [spec_DecFront.l1])
                    | succ k5 =>
                      have H := HA.out
                      clear HA
                      simp only [spec_DecFront.l1] at H
                      have HC19 := Aside0.mk H
                      clear H
                      go_upto_region 8 with (fail)
                      go_cut [58] (fun v58 wc => ∃ (kq : Nat) (x58_18 : Bool), v58 = .bool x58_18 ∧ Aside0 (spec_DecFront.j6 kq a0 x4_5 x5_6 x6_5 x7_5 x58_18 = some (r1, r2)) ∧ Aside0 (kq ≤ k5) ∧ Drawn0 w wc)
                      case first =>
                        have H := HC19.out
                        clear HC19
                        by_cases c20 : x4_5 < (a0.size : Int)
                        · rw [if_pos c20] at H
                          have c20b0 : decide (x4_5 < (a0.size : Int)) = true := decide_eq_true c20
                          clear c20
                          (first | rw [c20b0] | (simp only [i64_w, i32_w]; rw [c20b0]) | skip)
                          by_cases c21 : 0 ≤ x4_5
                          · rw [if_pos c21] at H
                            have c21b0 : decide (0 ≤ x4_5) = true := decide_eq_true c21
                            clear c21
                            replace H := Option.bind_eq_some_iff.mp H
                            obtain ⟨t101, A230, H⟩ := H
                            replace H : (spec_DecFront.j6 k5 a0 x4_5 x5_6 x6_5 x7_5 t101) = some (r1, r2) := H
                            have A23 := Aside0.mk A230
                            clear A230
                            have H' := Aside0.mk H
                            clear H
                            have p22 : 0 ≤ (x4_5 : Int) := of_decide_eq_true (by first | (with_reducible assumption) | assumption)
                            have q22 : x4_5 < (a0.size : Int) := of_decide_eq_true (by first | (with_reducible assumption) | assumption)
                            have hx22 := bt_at a0 x4_5
                            replace p22 := eq_true p22
                            replace q22 := eq_true q22
                            go_wp2_with (first | (go_at_call 32; (with_reducible refine (spec_l2Digit.calls (bt a0 x4_5) t101 _ A23.out).mono ?_); rintro e w' ⟨rfl, ⟨nd, rfl⟩⟩))
                            go_meet
                            case rel => exact ⟨_, (t101), (by first | rfl | (simp; done) | (simp [*]; done) | (simp [Int.tdiv_eq_ediv_of_nonneg]; done)), (by first | exact H' | ((repeat (first | rw [hji35])); exact H')), ⟨by have := HJ1.out; have := HJ6.out; have := HJ10.out; have := HJ16.out; have := HK5.out; first | omega | exact Nat.le_refl _⟩, by repeat (first | exact Drawn0.refl _ | apply Drawn0.step)⟩
                          · rw [if_neg c21] at H
                            exact absurd H (by simp)
                        · rw [if_neg c20] at H
                          have c20b0 : decide (x4_5 < (a0.size : Int)) = false := decide_eq_false c20
                          clear c20
                          (first | rw [c20b0] | (simp only [i64_w, i32_w]; rw [c20b0]) | skip)
                          have H' := Aside0.mk H
                          clear H
                          go_wp2
                          go_meet
                          case rel => exact ⟨_, (false), (by first | rfl | (simp; done) | (simp [*]; done) | (simp [Int.tdiv_eq_ediv_of_nonneg]; done)), (by first | exact H' | ((repeat (first | rw [hji35])); exact H')), ⟨by have := HJ1.out; have := HJ6.out; have := HJ10.out; have := HJ16.out; have := HK5.out; first | omega | exact Nat.le_refl _⟩, by repeat (first | exact Drawn0.refl _ | apply Drawn0.step)⟩
                      case rest =>
                        clear HC19
                        try clear c1
                        try clear p1
                        try clear q1
                        try clear hx1
                        try clear c2
                        try clear p2
                        try clear q2
                        try clear hx2
                        try clear c3
                        try clear c3b0
                        try clear c4
                        try clear c4b0
                        try clear p5
                        try clear q5
                        try clear hx5
                        try clear c6
                        try clear c6b0
                        try clear c6b1
                        try clear p6
                        try clear c8
                        try clear c8b0
                        try clear c9
                        try clear c9b0
                        try clear c10
                        try clear p10
                        try clear q10
                        try clear hx10
                        try clear c12
                        try clear c12b0
                        try clear c13
                        try clear c13b0
                        try clear p14
                        try clear q14
                        try clear hx14
                        try clear c15
                        try clear c15b0
                        try clear c15b1
                        try clear c16
                        try clear p16
                        try clear q16
                        try clear hx16
                        try clear c18
                        try clear c20
                        try clear c20b0
                        try clear c21
                        try clear c21b0
                        try clear p22
                        try clear q22
                        try clear hx22
                        try clear p1
                        try clear p10
                        try clear p14
                        try clear p16
                        try clear p2
                        try clear p22
                        try clear p5
                        try clear p6
                        try clear q1
                        try clear q10
                        try clear q14
                        try clear q16
                        try clear q22
                        try clear q5
                        obtain ⟨kq, x58_18, rfl, HA, HJ18, ⟨mc18, rfl⟩⟩ := hcut
                        cases kq with
                        | zero => exact absurd HA.out (by simp [spec_DecFront.j6])
                        | succ kj18 =>
                          have H := HA.out
                          clear HA
                          simp only [spec_DecFront.j6] at H
                          by_cases c24 : x58_18 = true
                          · subst c24
                            have H1 : (if x6_5 ≤ 9000000000000 then (if 0 ≤ x4_5 then (if x4_5 < (a0.size : Int) then (spec_DecFront.l1 kj18 a0 (wrap64 (x4_5 + 1)) x5_6 (wrap64 ((wrap64 (10 * x6_5)) + (wrap64 ((wrap64 ((wrap64 (bt a0 x4_5)) - 48)) * 1000000)))) (wrap64 (x7_5 + 1))) else (none)) else (none)) else (spec_DecFront.l1 kj18 a0 (wrap64 (x4_5 + 1)) x5_6 x6_5 (wrap64 (x7_5 + 1)))) = some (r1, r2) := by rw [if_pos rfl] at H; exact H
                            clear H
                            have H := H1
                            clear H1
                            by_cases c25 : x6_5 ≤ 9000000000000
                            · rw [if_pos c25] at H
                              have c25b0 : decide (x6_5 ≤ 9000000000000) = true := decide_eq_true c25
                              clear c25
                              by_cases c26 : 0 ≤ x4_5
                              · rw [if_pos c26] at H
                                have c26b0 : decide (0 ≤ x4_5) = true := decide_eq_true c26
                                clear c26
                                by_cases c27 : x4_5 < (a0.size : Int)
                                · rw [if_pos c27] at H
                                  have c27b0 : decide (x4_5 < (a0.size : Int)) = true := decide_eq_true c27
                                  clear c27
                                  have H' := Aside0.mk H
                                  clear H
                                  have p28 : 0 ≤ (x4_5 : Int) := of_decide_eq_true (by first | (with_reducible assumption) | assumption)
                                  have q28 : x4_5 < (a0.size : Int) := of_decide_eq_true (by first | (with_reducible assumption) | assumption)
                                  have hx28 := bt_at a0 x4_5
                                  replace p28 := eq_true p28
                                  replace q28 := eq_true q28
                                  go_wp2
                                  go_roundg kj18
                                  case measure => have := HJ1.out; have := HJ6.out; have := HJ10.out; have := HJ16.out; have := HK5.out; have := HJ18.out; omega
                                  case rel => exact ⟨(wrap64 (x4_5 + 1)), (wrap64 ((wrap64 (10 * x6_5)) + (wrap64 ((wrap64 ((wrap64 (bt a0 x4_5)) - 48)) * 1000000)))), (wrap64 (x7_5 + 1)), (by first | rfl | (simp; done) | (simp [*]; done) | (simp [Int.tdiv_eq_ediv_of_nonneg]; done)), (by first | rfl | (simp; done) | (simp [*]; done) | (simp [Int.tdiv_eq_ediv_of_nonneg]; done)), (by first | rfl | (simp; done) | (simp [*]; done) | (simp [Int.tdiv_eq_ediv_of_nonneg]; done)), (by first | exact H' | ((repeat (first | rw [hji35])); exact H')), ⟨by have := HJ1.out; have := HJ6.out; have := HJ10.out; have := HJ16.out; have := HK5.out; have := HJ18.out; omega⟩, by repeat (first | exact Drawn0.refl _ | apply Drawn0.step)⟩
                                · rw [if_neg c27] at H
                                  exact absurd H (by simp)
                              · rw [if_neg c26] at H
                                exact absurd H (by simp)
                            · rw [if_neg c25] at H
                              have c25b0 : decide (x6_5 ≤ 9000000000000) = false := decide_eq_false c25
                              clear c25
                              have H' := Aside0.mk H
                              clear H
                              go_wp2
                              go_roundg kj18
                              case measure => have := HJ1.out; have := HJ6.out; have := HJ10.out; have := HJ16.out; have := HK5.out; have := HJ18.out; omega
                              case rel => exact ⟨(wrap64 (x4_5 + 1)), (x6_5), (wrap64 (x7_5 + 1)), (by first | rfl | (simp; done) | (simp [*]; done) | (simp [Int.tdiv_eq_ediv_of_nonneg]; done)), (by first | rfl | (simp; done) | (simp [*]; done) | (simp [Int.tdiv_eq_ediv_of_nonneg]; done)), (by first | rfl | (simp; done) | (simp [*]; done) | (simp [Int.tdiv_eq_ediv_of_nonneg]; done)), (by first | exact H' | ((repeat (first | rw [hji35])); exact H')), ⟨by have := HJ1.out; have := HJ6.out; have := HJ10.out; have := HJ16.out; have := HK5.out; have := HJ18.out; omega⟩, by repeat (first | exact Drawn0.refl _ | apply Drawn0.step)⟩
                          · replace c24 := Bool.eq_false_iff.mpr c24
                            subst c24
                            have H1 : (if (wrap64 (x4_5 + 1)) < (a0.size : Int) then (if 0 ≤ x4_5 then (if x4_5 < (a0.size : Int) then (if (bt a0 x4_5) = 46 then (if 0 ≤ (wrap64 (x4_5 + 1)) then ((spec_l2Digit.f (bt a0 (wrap64 (x4_5 + 1)))).bind fun t102 => (spec_DecFront.j7 kj18 a0 x4_5 x5_6 x6_5 x7_5 t102)) else (none)) else (spec_DecFront.j7 kj18 a0 x4_5 x5_6 x6_5 x7_5 false)) else (none)) else (none)) else (spec_DecFront.j7 kj18 a0 x4_5 x5_6 x6_5 x7_5 false)) = some (r1, r2) := by rw [if_neg (show ¬ (false = true) by decide)] at H; exact H
                            clear H
                            have H := H1
                            clear H1
                            have HC29 := Aside0.mk H
                            clear H
                            go_upto_region 13 with (fail)
                            go_cut [91] (fun v91 wc => ∃ (kq : Nat) (x91_28 : Bool), v91 = .bool x91_28 ∧ Aside0 (spec_DecFront.j7 kq a0 x4_5 x5_6 x6_5 x7_5 x91_28 = some (r1, r2)) ∧ Aside0 (kq ≤ kj18) ∧ Drawn0 w wc)
                            case first =>
                              have H := HC29.out
                              clear HC29
                              by_cases c30 : (wrap64 (x4_5 + 1)) < (a0.size : Int)
                              · rw [if_pos c30] at H
                                have c30b0 : decide ((wrap64 (x4_5 + 1)) < (a0.size : Int)) = true := decide_eq_true c30
                                clear c30
                                (first | rw [c30b0] | (simp only [i64_w, i32_w]; rw [c30b0]) | skip)
                                by_cases c31 : 0 ≤ x4_5
                                · rw [if_pos c31] at H
                                  have c31b0 : decide (0 ≤ x4_5) = true := decide_eq_true c31
                                  clear c31
                                  by_cases c32 : x4_5 < (a0.size : Int)
                                  · rw [if_pos c32] at H
                                    have c32b0 : decide (x4_5 < (a0.size : Int)) = true := decide_eq_true c32
                                    clear c32
                                    by_cases c34 : (bt a0 x4_5) = 46
                                    · rw [if_pos c34] at H
                                      have c34b0 : ((bt a0 x4_5) == 46) = true := beq_iff_eq.mpr c34
                                      have c34b1 : ((bt a0 x4_5) != 46) = false := bne_eq_false_iff_eq.mpr c34
                                      clear c34
                                      obtain ⟨ji35, hji35⟩ : ∃ j_ : Int, (wrap64 (x4_5 + 1)) = j_ := ⟨_, rfl⟩
                                      replace H : (if 0 ≤ (ji35) then ((spec_l2Digit.f (bt a0 (ji35))).bind fun t102 => (spec_DecFront.j7 kj18 a0 x4_5 x5_6 x6_5 x7_5 t102)) else (none)) = some (r1, r2) := by first | (rw [hji35] at H; exact H) | (simp only [hji35] at H ⊢; exact H)
                                      (try rw [hji35] at c30b0)
                                      have hji35w : (IntKind.i64.wrap (x4_5 + 1)) = ji35 := (i64_w _).trans hji35
                                      by_cases c36 : 0 ≤ (ji35)
                                      · rw [if_pos c36] at H
                                        have c36b0 : decide (0 ≤ (ji35)) = true := decide_eq_true c36
                                        clear c36
                                        replace H := Option.bind_eq_some_iff.mp H
                                        obtain ⟨t102, A380, H⟩ := H
                                        replace H : (spec_DecFront.j7 kj18 a0 x4_5 x5_6 x6_5 x7_5 t102) = some (r1, r2) := H
                                        have A38 := Aside0.mk A380
                                        clear A380
                                        have H' := Aside0.mk H
                                        clear H
                                        have p33 : 0 ≤ (x4_5 : Int) := of_decide_eq_true (by first | (with_reducible assumption) | assumption)
                                        have q33 : x4_5 < (a0.size : Int) := of_decide_eq_true (by first | (with_reducible assumption) | assumption)
                                        have hx33 := bt_at a0 x4_5
                                        replace p33 := eq_true p33
                                        replace q33 := eq_true q33
                                        have p37 : 0 ≤ ((ji35) : Int) := of_decide_eq_true (by first | (with_reducible assumption) | assumption)
                                        have q37 : (ji35) < (a0.size : Int) := of_decide_eq_true (by first | (with_reducible assumption) | assumption)
                                        have hx37 := bt_at a0 (ji35)
                                        replace p37 := eq_true p37
                                        replace q37 := eq_true q37
                                        go_wp2_with (first | (go_at_call 32; (with_reducible refine (spec_l2Digit.calls (bt a0 (ji35)) t102 _ A38.out).mono ?_); rintro e w' ⟨rfl, ⟨nd, rfl⟩⟩))
                                        go_meet
                                        case rel => exact ⟨_, (t102), (by first | rfl | (simp; done) | (simp [*]; done) | (simp [Int.tdiv_eq_ediv_of_nonneg]; done)), (by first | exact H' | ((repeat (first | rw [hji35])); exact H')), ⟨by have := HJ1.out; have := HJ6.out; have := HJ10.out; have := HJ16.out; have := HK5.out; have := HJ18.out; first | omega | exact Nat.le_refl _⟩, by repeat (first | exact Drawn0.refl _ | apply Drawn0.step)⟩
                                      · rw [if_neg c36] at H
                                        exact absurd H (by simp)
                                    · rw [if_neg c34] at H
                                      have c34b0 : ((bt a0 x4_5) == 46) = false := beq_eq_false_iff_ne.mpr c34
                                      have c34b1 : ((bt a0 x4_5) != 46) = true := bne_iff_ne.mpr c34
                                      have H' := Aside0.mk H
                                      clear H
                                      have p33 : 0 ≤ (x4_5 : Int) := of_decide_eq_true (by first | (with_reducible assumption) | assumption)
                                      have q33 : x4_5 < (a0.size : Int) := of_decide_eq_true (by first | (with_reducible assumption) | assumption)
                                      have hx33 := bt_at a0 x4_5
                                      replace p33 := eq_true p33
                                      replace q33 := eq_true q33
                                      go_wp2
                                      go_meet
                                      case rel => exact ⟨_, (false), (by first | rfl | (simp; done) | (simp [*]; done) | (simp [Int.tdiv_eq_ediv_of_nonneg]; done)), (by first | exact H' | ((repeat (first | rw [hji35])); exact H')), ⟨by have := HJ1.out; have := HJ6.out; have := HJ10.out; have := HJ16.out; have := HK5.out; have := HJ18.out; first | omega | exact Nat.le_refl _⟩, by repeat (first | exact Drawn0.refl _ | apply Drawn0.step)⟩
                                  · rw [if_neg c32] at H
                                    exact absurd H (by simp)
                                · rw [if_neg c31] at H
                                  exact absurd H (by simp)
                              · rw [if_neg c30] at H
                                have c30b0 : decide ((wrap64 (x4_5 + 1)) < (a0.size : Int)) = false := decide_eq_false c30
                                clear c30
                                (first | rw [c30b0] | (simp only [i64_w, i32_w]; rw [c30b0]) | skip)
                                have H' := Aside0.mk H
                                clear H
                                go_wp2
                                go_meet
                                case rel => exact ⟨_, (false), (by first | rfl | (simp; done) | (simp [*]; done) | (simp [Int.tdiv_eq_ediv_of_nonneg]; done)), (by first | exact H' | ((repeat (first | rw [hji35])); exact H')), ⟨by have := HJ1.out; have := HJ6.out; have := HJ10.out; have := HJ16.out; have := HK5.out; have := HJ18.out; first | omega | exact Nat.le_refl _⟩, by repeat (first | exact Drawn0.refl _ | apply Drawn0.step)⟩
                            case rest =>
                              clear HC29
                              try clear c1
                              try clear p1
                              try clear q1
                              try clear hx1
                              try clear c2
                              try clear p2
                              try clear q2
                              try clear hx2
                              try clear c3
                              try clear c3b0
                              try clear p3
                              try clear q3
                              try clear hx3
                              try clear c4
                              try clear c4b0
                              try clear p5
                              try clear q5
                              try clear hx5
                              try clear c6
                              try clear c6b0
                              try clear c6b1
                              try clear p6
                              try clear c8
                              try clear c8b0
                              try clear c9
                              try clear c9b0
                              try clear c10
                              try clear p10
                              try clear q10
                              try clear hx10
                              try clear c12
                              try clear c12b0
                              try clear c13
                              try clear c13b0
                              try clear p14
                              try clear q14
                              try clear hx14
                              try clear c15
                              try clear c15b0
                              try clear c15b1
                              try clear c16
                              try clear p16
                              try clear q16
                              try clear hx16
                              try clear c18
                              try clear c20
                              try clear c20b0
                              try clear c21
                              try clear c21b0
                              try clear p22
                              try clear q22
                              try clear hx22
                              try clear c24
                              try clear c25
                              try clear c25b0
                              try clear c26
                              try clear c26b0
                              try clear c27
                              try clear c27b0
                              try clear p28
                              try clear q28
                              try clear hx28
                              try clear c30
                              try clear c30b0
                              try clear c31
                              try clear c31b0
                              try clear c32
                              try clear c32b0
                              try clear p33
                              try clear q33
                              try clear hx33
                              try clear c34
                              try clear c34b0
                              try clear c34b1
                              try clear c36
                              try clear c36b0
                              try clear p37
                              try clear q37
                              try clear hx37
                              try clear p1
                              try clear p10
                              try clear p14
                              try clear p16
                              try clear p2
                              try clear p22
                              try clear p28
                              try clear p33
                              try clear p37
                              try clear p5
                              try clear p6
                              try clear q1
                              try clear q10
                              try clear q14
                              try clear q16
                              try clear q2
                              try clear q22
                              try clear q28
                              try clear q33
                              try clear q37
                              try clear q5
                              obtain ⟨kq, x91_28, rfl, HA, HJ28, ⟨mc28, rfl⟩⟩ := hcut
                              cases kq with
                              | zero => exact absurd HA.out (by simp [spec_DecFront.j7])
                              | succ kj28 =>
                                have H := HA.out
                                clear HA
                                simp only [spec_DecFront.j7] at H
                                have HC39 := Aside0.mk H
                                clear H
                                go_upto_if 91 with (fail)
                                go_cut [4, 6, 7] (fun v4 v6 v7 wc => ∃ (kq : Nat) (x4_38 : Int) (x6_38 : Int) (x7_38 : Int), v4 = .int .i64 x4_38 ∧ v6 = .int .i64 x6_38 ∧ v7 = .int .i64 x7_38 ∧ Aside0 (spec_DecFront.j9 kq x4_38 x5_6 x6_38 x7_38 = some (r1, r2)) ∧ Aside0 (kq ≤ kj28) ∧ Drawn0 w wc)
                                case first =>
                                  have H := HC39.out
                                  clear HC39
                                  by_cases c40 : x91_28 = true
                                  · subst c40
                                    have H1 : (spec_DecFront.l2 kj28 a0 (wrap64 (x4_5 + 1)) x5_6 x6_5 x7_5 100000) = some (r1, r2) := by rw [if_pos rfl] at H; exact H
                                    clear H
                                    have H := H1
                                    clear H1
                                    have H' := Aside0.mk H
                                    clear H
                                    go_wp2
                                    go_loopg [4, 6, 7, 8] kj28 (fun kq v4 v6 v7 v8 w' => ∃ (x4_8 : Int) (x6_8 : Int) (x7_8 : Int) (x8_8 : Int), v4 = .int .i64 x4_8 ∧ v6 = .int .i64 x6_8 ∧ v7 = .int .i64 x7_8 ∧ v8 = .int .i64 x8_8 ∧ Aside0 (spec_DecFront.l2 kq a0 x4_8 x5_6 x6_8 x7_8 x8_8 = some (r1, r2)) ∧ Aside0 (kq ≤ kj28) ∧ Drawn0 w w')
                                    case atStart => exact ⟨(wrap64 (x4_5 + 1)), (x6_5), (x7_5), (100000), (by first | rfl | (simp; done) | (simp [*]; done) | (simp [Int.tdiv_eq_ediv_of_nonneg]; done)), (by first | rfl | (simp; done) | (simp [*]; done) | (simp [Int.tdiv_eq_ediv_of_nonneg]; done)), (by first | rfl | (simp; done) | (simp [*]; done) | (simp [Int.tdiv_eq_ediv_of_nonneg]; done)), (by first | rfl | (simp; done) | (simp [*]; done) | (simp [Int.tdiv_eq_ediv_of_nonneg]; done)), H', ⟨Nat.le_refl _⟩, by repeat (first | exact Drawn0.refl _ | apply Drawn0.step)⟩
                                    case round =>
                                      clear H'
                                      try clear c1
                                      try clear p1
                                      try clear q1
                                      try clear hx1
                                      try clear c2
                                      try clear p2
                                      try clear q2
                                      try clear hx2
                                      try clear c3
                                      try clear c3b0
                                      try clear p3
                                      try clear q3
                                      try clear hx3
                                      try clear c4
                                      try clear c4b0
                                      try clear p5
                                      try clear q5
                                      try clear hx5
                                      try clear c6
                                      try clear c6b0
                                      try clear c6b1
                                      try clear p6
                                      try clear c8
                                      try clear c8b0
                                      try clear c9
                                      try clear c9b0
                                      try clear c10
                                      try clear p10
                                      try clear q10
                                      try clear hx10
                                      try clear c12
                                      try clear c12b0
                                      try clear c13
                                      try clear c13b0
                                      try clear p14
                                      try clear q14
                                      try clear hx14
                                      try clear c15
                                      try clear c15b0
                                      try clear c15b1
                                      try clear c16
                                      try clear p16
                                      try clear q16
                                      try clear hx16
                                      try clear c18
                                      try clear c20
                                      try clear c20b0
                                      try clear c21
                                      try clear c21b0
                                      try clear p22
                                      try clear q22
                                      try clear hx22
                                      try clear c24
                                      try clear c25
                                      try clear c25b0
                                      try clear c26
                                      try clear c26b0
                                      try clear c27
                                      try clear c27b0
                                      try clear c28
                                      try clear p28
                                      try clear q28
                                      try clear hx28
                                      try clear c30
                                      try clear c30b0
                                      try clear c31
                                      try clear c31b0
                                      try clear c32
                                      try clear c32b0
                                      try clear p33
                                      try clear q33
                                      try clear hx33
                                      try clear c34
                                      try clear c34b0
                                      try clear c34b1
                                      try clear c36
                                      try clear c36b0
                                      try clear p37
                                      try clear q37
                                      try clear hx37
                                      try clear c40
                                      try clear p1
                                      try clear p10
                                      try clear p14
                                      try clear p16
                                      try clear p2
                                      try clear p22
                                      try clear p28
                                      try clear p3
                                      try clear p33
                                      try clear p37
                                      try clear p5
                                      try clear p6
                                      try clear q1
                                      try clear q10
                                      try clear q14
                                      try clear q16
                                      try clear q2
                                      try clear q22
                                      try clear q28
                                      try clear q3
                                      try clear q33
                                      try clear q37
                                      try clear q5
                                      obtain ⟨x4_8, x6_8, x7_8, x8_8, rfl, rfl, rfl, rfl, HA, HK8, ⟨m8, rfl⟩⟩ := hrel
                                      cases gk with
                                      | zero => exact absurd HA.out (by simp [spec_DecFront.l2])
                                      | succ k8 =>
                                        have H := HA.out
                                        clear HA
                                        simp only [spec_DecFront.l2] at H
                                        by_cases c41 : x4_8 < (a0.size : Int)
                                        · rw [if_pos c41] at H
                                          have c41b0 : decide (x4_8 < (a0.size : Int)) = true := decide_eq_true c41
                                          clear c41
                                          (first | rw [c41b0] | (simp only [i64_w, i32_w]; rw [c41b0]) | skip)
                                          by_cases c42 : 0 ≤ x4_8
                                          · rw [if_pos c42] at H
                                            have c42b0 : decide (0 ≤ x4_8) = true := decide_eq_true c42
                                            clear c42
                                            replace H := Option.bind_eq_some_iff.mp H
                                            obtain ⟨t103, A440, H⟩ := H
                                            replace H : (if t103 = true then (spec_DecFront.l2 k8 a0 (wrap64 (x4_8 + 1)) x5_6 (wrap64 (x6_8 + (wrap64 ((wrap64 ((wrap64 (bt a0 x4_8)) - 48)) * x8_8)))) (wrap64 (x7_8 + 1)) (wrap64 (Int.tdiv x8_8 10))) else (spec_DecFront.j9 k8 x4_8 x5_6 x6_8 x7_8)) = some (r1, r2) := H
                                            have A44 := Aside0.mk A440
                                            clear A440
                                            by_cases c45 : t103 = true
                                            · subst c45
                                              have H1 : (spec_DecFront.l2 k8 a0 (wrap64 (x4_8 + 1)) x5_6 (wrap64 (x6_8 + (wrap64 ((wrap64 ((wrap64 (bt a0 x4_8)) - 48)) * x8_8)))) (wrap64 (x7_8 + 1)) (wrap64 (Int.tdiv x8_8 10))) = some (r1, r2) := by rw [if_pos rfl] at H; exact H
                                              clear H
                                              have H := H1
                                              clear H1
                                              have H' := Aside0.mk H
                                              clear H
                                              have p43 : 0 ≤ (x4_8 : Int) := of_decide_eq_true (by first | (with_reducible assumption) | assumption)
                                              have q43 : x4_8 < (a0.size : Int) := of_decide_eq_true (by first | (with_reducible assumption) | assumption)
                                              have hx43 := bt_at a0 x4_8
                                              replace p43 := eq_true p43
                                              replace q43 := eq_true q43
                                              go_wp2_with (first | (go_at_call 32; (with_reducible refine (spec_l2Digit.calls (bt a0 x4_8) true _ A44.out).mono ?_); rintro e w' ⟨rfl, ⟨nd, rfl⟩⟩; have p46 : 0 ≤ (x4_8 : Int) := of_decide_eq_true (by first | (with_reducible assumption) | assumption); have q46 : x4_8 < (a0.size : Int) := of_decide_eq_true (by first | (with_reducible assumption) | assumption); have hx46 := bt_at a0 x4_8; replace p46 := eq_true p46; replace q46 := eq_true q46))
                                              go_roundg k8
                                              case measure => have := HJ1.out; have := HJ6.out; have := HJ10.out; have := HJ16.out; have := HK5.out; have := HJ18.out; have := HJ28.out; have := HK8.out; omega
                                              case rel => exact ⟨(wrap64 (x4_8 + 1)), (wrap64 (x6_8 + (wrap64 ((wrap64 ((wrap64 (bt a0 x4_8)) - 48)) * x8_8)))), (wrap64 (x7_8 + 1)), (wrap64 (Int.tdiv x8_8 10)), (by first | rfl | (simp; done) | (simp [*]; done) | (simp [Int.tdiv_eq_ediv_of_nonneg]; done)), (by first | rfl | (simp; done) | (simp [*]; done) | (simp [Int.tdiv_eq_ediv_of_nonneg]; done)), (by first | rfl | (simp; done) | (simp [*]; done) | (simp [Int.tdiv_eq_ediv_of_nonneg]; done)), (by first | rfl | (simp; done) | (simp [*]; done) | (simp [Int.tdiv_eq_ediv_of_nonneg]; done)), (by first | exact H' | ((repeat (first | rw [hji35])); exact H')), ⟨by have := HJ1.out; have := HJ6.out; have := HJ10.out; have := HJ16.out; have := HK5.out; have := HJ18.out; have := HJ28.out; have := HK8.out; omega⟩, by repeat (first | exact Drawn0.refl _ | apply Drawn0.step)⟩
                                            · replace c45 := Bool.eq_false_iff.mpr c45
                                              subst c45
                                              have H1 : (spec_DecFront.j9 k8 x4_8 x5_6 x6_8 x7_8) = some (r1, r2) := by rw [if_neg (show ¬ (false = true) by decide)] at H; exact H
                                              clear H
                                              have H := H1
                                              clear H1
                                              have H' := Aside0.mk H
                                              clear H
                                              have p43 : 0 ≤ (x4_8 : Int) := of_decide_eq_true (by first | (with_reducible assumption) | assumption)
                                              have q43 : x4_8 < (a0.size : Int) := of_decide_eq_true (by first | (with_reducible assumption) | assumption)
                                              have hx43 := bt_at a0 x4_8
                                              replace p43 := eq_true p43
                                              replace q43 := eq_true q43
                                              go_wp2_with (first | (go_at_call 32; (with_reducible refine (spec_l2Digit.calls (bt a0 x4_8) false _ A44.out).mono ?_); rintro e w' ⟨rfl, ⟨nd, rfl⟩⟩))
                                              go_meet
                                              case rel => exact ⟨_, (x4_8), (x6_8), (x7_8), (by first | rfl | (simp; done) | (simp [*]; done) | (simp [Int.tdiv_eq_ediv_of_nonneg]; done)), (by first | rfl | (simp; done) | (simp [*]; done) | (simp [Int.tdiv_eq_ediv_of_nonneg]; done)), (by first | rfl | (simp; done) | (simp [*]; done) | (simp [Int.tdiv_eq_ediv_of_nonneg]; done)), (by first | exact H' | ((repeat (first | rw [hji35])); exact H')), ⟨by have := HJ1.out; have := HJ6.out; have := HJ10.out; have := HJ16.out; have := HK5.out; have := HJ18.out; have := HJ28.out; have := HK8.out; first | omega | exact Nat.le_refl _⟩, by repeat (first | exact Drawn0.refl _ | apply Drawn0.step)⟩
                                          · rw [if_neg c42] at H
                                            exact absurd H (by simp)
                                        · rw [if_neg c41] at H
                                          have c41b0 : decide (x4_8 < (a0.size : Int)) = false := decide_eq_false c41
                                          clear c41
                                          (first | rw [c41b0] | (simp only [i64_w, i32_w]; rw [c41b0]) | skip)
                                          have H' := Aside0.mk H
                                          clear H
                                          go_wp2
                                          go_meet
                                          case rel => exact ⟨_, (x4_8), (x6_8), (x7_8), (by first | rfl | (simp; done) | (simp [*]; done) | (simp [Int.tdiv_eq_ediv_of_nonneg]; done)), (by first | rfl | (simp; done) | (simp [*]; done) | (simp [Int.tdiv_eq_ediv_of_nonneg]; done)), (by first | rfl | (simp; done) | (simp [*]; done) | (simp [Int.tdiv_eq_ediv_of_nonneg]; done)), (by first | exact H' | ((repeat (first | rw [hji35])); exact H')), ⟨by have := HJ1.out; have := HJ6.out; have := HJ10.out; have := HJ16.out; have := HK5.out; have := HJ18.out; have := HJ28.out; have := HK8.out; first | omega | exact Nat.le_refl _⟩, by repeat (first | exact Drawn0.refl _ | apply Drawn0.step)⟩
                                  · replace c40 := Bool.eq_false_iff.mpr c40
                                    subst c40
                                    have H1 : (spec_DecFront.j9 kj28 x4_5 x5_6 x6_5 x7_5) = some (r1, r2) := by rw [if_neg (show ¬ (false = true) by decide)] at H; exact H
                                    clear H
                                    have H := H1
                                    clear H1
                                    have H' := Aside0.mk H
                                    clear H
                                    go_wp2
                                    go_meet
                                    case rel => exact ⟨_, (x4_5), (x6_5), (x7_5), (by first | rfl | (simp; done) | (simp [*]; done) | (simp [Int.tdiv_eq_ediv_of_nonneg]; done)), (by first | rfl | (simp; done) | (simp [*]; done) | (simp [Int.tdiv_eq_ediv_of_nonneg]; done)), (by first | rfl | (simp; done) | (simp [*]; done) | (simp [Int.tdiv_eq_ediv_of_nonneg]; done)), (by first | exact H' | ((repeat (first | rw [hji35])); exact H')), ⟨by have := HJ1.out; have := HJ6.out; have := HJ10.out; have := HJ16.out; have := HK5.out; have := HJ18.out; have := HJ28.out; first | omega | exact Nat.le_refl _⟩, by repeat (first | exact Drawn0.refl _ | apply Drawn0.step)⟩
                                case rest =>
                                  clear HC39
                                  try clear c1
                                  try clear p1
                                  try clear q1
                                  try clear hx1
                                  try clear c2
                                  try clear p2
                                  try clear q2
                                  try clear hx2
                                  try clear c3
                                  try clear c3b0
                                  try clear p3
                                  try clear q3
                                  try clear hx3
                                  try clear c4
                                  try clear c4b0
                                  try clear p4
                                  try clear q4
                                  try clear hx4
                                  try clear p5
                                  try clear q5
                                  try clear hx5
                                  try clear c6
                                  try clear c6b0
                                  try clear c6b1
                                  try clear p6
                                  try clear c8
                                  try clear c8b0
                                  try clear c9
                                  try clear c9b0
                                  try clear c10
                                  try clear p10
                                  try clear q10
                                  try clear hx10
                                  try clear c12
                                  try clear c12b0
                                  try clear c13
                                  try clear c13b0
                                  try clear p14
                                  try clear q14
                                  try clear hx14
                                  try clear c15
                                  try clear c15b0
                                  try clear c15b1
                                  try clear c16
                                  try clear p16
                                  try clear q16
                                  try clear hx16
                                  try clear c18
                                  try clear c20
                                  try clear c20b0
                                  try clear c21
                                  try clear c21b0
                                  try clear p22
                                  try clear q22
                                  try clear hx22
                                  try clear c24
                                  try clear c25
                                  try clear c25b0
                                  try clear c26
                                  try clear c26b0
                                  try clear c27
                                  try clear c27b0
                                  try clear c28
                                  try clear p28
                                  try clear q28
                                  try clear hx28
                                  try clear c30
                                  try clear c30b0
                                  try clear c31
                                  try clear c31b0
                                  try clear c32
                                  try clear c32b0
                                  try clear p33
                                  try clear q33
                                  try clear hx33
                                  try clear c34
                                  try clear c34b0
                                  try clear c34b1
                                  try clear c36
                                  try clear c36b0
                                  try clear p37
                                  try clear q37
                                  try clear hx37
                                  try clear c40
                                  try clear c41
                                  try clear c41b0
                                  try clear c42
                                  try clear c42b0
                                  try clear p43
                                  try clear q43
                                  try clear hx43
                                  try clear c45
                                  try clear p46
                                  try clear q46
                                  try clear hx46
                                  try clear p1
                                  try clear p10
                                  try clear p14
                                  try clear p16
                                  try clear p2
                                  try clear p22
                                  try clear p28
                                  try clear p3
                                  try clear p33
                                  try clear p37
                                  try clear p43
                                  try clear p46
                                  try clear p5
                                  try clear p6
                                  try clear q1
                                  try clear q10
                                  try clear q14
                                  try clear q16
                                  try clear q2
                                  try clear q22
                                  try clear q28
                                  try clear q3
                                  try clear q33
                                  try clear q37
                                  try clear q43
                                  try clear q46
                                  try clear q5
                                  obtain ⟨kq, x4_38, x6_38, x7_38, rfl, rfl, rfl, HA, HJ38, ⟨mc38, rfl⟩⟩ := hcut
                                  cases kq with
                                  | zero => exact absurd HA.out (by simp [spec_DecFront.j9])
                                  | succ kj38 =>
                                    have H := HA.out
                                    clear HA
                                    simp only [spec_DecFront.j9] at H
                                    have HC47 := Aside0.mk H
                                    clear H
                                    go_upto_region 21 with (fail)
                                    go_cut [124] (fun v124 wc => ∃ (kq : Nat) (x124_46 : Bool), v124 = .bool x124_46 ∧ Aside0 (spec_DecFront.j10 kq x4_38 x5_6 x6_38 x124_46 = some (r1, r2)) ∧ Aside0 (kq ≤ kj38) ∧ Drawn0 w wc)
                                    case first =>
                                      have H := HC47.out
                                      clear HC47
                                      by_cases c48 : x7_38 = 0
                                      · rw [if_pos c48] at H
                                        have c48b0 : (x7_38 == 0) = true := beq_iff_eq.mpr c48
                                        have c48b1 : (x7_38 != 0) = false := bne_eq_false_iff_eq.mpr c48
                                        clear c48
                                        (first | rw [c48b0] | (simp only [i64_w, i32_w]; rw [c48b0]) | skip)
                                        have H' := Aside0.mk H
                                        clear H
                                        go_wp2
                                        go_meet
                                        case rel => exact ⟨_, (true), (by first | rfl | (simp; done) | (simp [*]; done) | (simp [Int.tdiv_eq_ediv_of_nonneg]; done)), (by first | exact H' | ((repeat (first | rw [hji35])); exact H')), ⟨by have := HJ1.out; have := HJ6.out; have := HJ10.out; have := HJ16.out; have := HK5.out; have := HJ18.out; have := HJ28.out; have := HJ38.out; first | omega | exact Nat.le_refl _⟩, by repeat (first | exact Drawn0.refl _ | apply Drawn0.step)⟩
                                      · rw [if_neg c48] at H
                                        have c48b0 : (x7_38 == 0) = false := beq_eq_false_iff_ne.mpr c48
                                        have c48b1 : (x7_38 != 0) = true := bne_iff_ne.mpr c48
                                        (first | rw [c48b0] | (simp only [i64_w, i32_w]; rw [c48b0]) | skip)
                                        have H' := Aside0.mk H
                                        clear H
                                        go_wp2
                                        go_meet
                                        case rel => exact ⟨_, (decide (x6_38 > 9000000000000)), (by first | rfl | (simp; done) | (simp [*]; done) | (simp [Int.tdiv_eq_ediv_of_nonneg]; done)), (by first | exact H' | ((repeat (first | rw [hji35])); exact H')), ⟨by have := HJ1.out; have := HJ6.out; have := HJ10.out; have := HJ16.out; have := HK5.out; have := HJ18.out; have := HJ28.out; have := HJ38.out; first | omega | exact Nat.le_refl _⟩, by repeat (first | exact Drawn0.refl _ | apply Drawn0.step)⟩
                                    case rest =>
                                      clear HC47
                                      try clear c1
                                      try clear p1
                                      try clear q1
                                      try clear hx1
                                      try clear c2
                                      try clear p2
                                      try clear q2
                                      try clear hx2
                                      try clear c3
                                      try clear c3b0
                                      try clear p3
                                      try clear q3
                                      try clear hx3
                                      try clear c4
                                      try clear c4b0
                                      try clear p4
                                      try clear q4
                                      try clear hx4
                                      try clear p5
                                      try clear q5
                                      try clear hx5
                                      try clear c6
                                      try clear c6b0
                                      try clear c6b1
                                      try clear p6
                                      try clear c8
                                      try clear c8b0
                                      try clear c9
                                      try clear c9b0
                                      try clear c10
                                      try clear p10
                                      try clear q10
                                      try clear hx10
                                      try clear c12
                                      try clear c12b0
                                      try clear c13
                                      try clear c13b0
                                      try clear p14
                                      try clear q14
                                      try clear hx14
                                      try clear c15
                                      try clear c15b0
                                      try clear c15b1
                                      try clear c16
                                      try clear p16
                                      try clear q16
                                      try clear hx16
                                      try clear c18
                                      try clear c20
                                      try clear c20b0
                                      try clear c21
                                      try clear c21b0
                                      try clear p22
                                      try clear q22
                                      try clear hx22
                                      try clear c24
                                      try clear c25
                                      try clear c25b0
                                      try clear c26
                                      try clear c26b0
                                      try clear c27
                                      try clear c27b0
                                      try clear c28
                                      try clear p28
                                      try clear q28
                                      try clear hx28
                                      try clear c30
                                      try clear c30b0
                                      try clear c31
                                      try clear c31b0
                                      try clear c32
                                      try clear c32b0
                                      try clear p33
                                      try clear q33
                                      try clear hx33
                                      try clear c34
                                      try clear c34b0
                                      try clear c34b1
                                      try clear c36
                                      try clear c36b0
                                      try clear p37
                                      try clear q37
                                      try clear hx37
                                      try clear c38
                                      try clear c40
                                      try clear c41
                                      try clear c41b0
                                      try clear c42
                                      try clear c42b0
                                      try clear p43
                                      try clear q43
                                      try clear hx43
                                      try clear c45
                                      try clear p46
                                      try clear q46
                                      try clear hx46
                                      try clear c48
                                      try clear c48b0
                                      try clear c48b1
                                      try clear p1
                                      try clear p10
                                      try clear p14
                                      try clear p16
                                      try clear p2
                                      try clear p22
                                      try clear p28
                                      try clear p3
                                      try clear p33
                                      try clear p37
                                      try clear p4
                                      try clear p43
                                      try clear p46
                                      try clear p5
                                      try clear p6
                                      try clear q1
                                      try clear q10
                                      try clear q14
                                      try clear q16
                                      try clear q2
                                      try clear q22
                                      try clear q28
                                      try clear q3
                                      try clear q33
                                      try clear q37
                                      try clear q4
                                      try clear q43
                                      try clear q46
                                      try clear q5
                                      obtain ⟨kq, x124_46, rfl, HA, HJ46, ⟨mc46, rfl⟩⟩ := hcut
                                      cases kq with
                                      | zero => exact absurd HA.out (by simp [spec_DecFront.j10])
                                      | succ kj46 =>
                                        have H := HA.out
                                        clear HA
                                        simp only [spec_DecFront.j10] at H
                                        by_cases c49 : x124_46 = true
                                        · subst c49
                                          have H1 : (some (0, 0)) = some (r1, r2) := by rw [if_pos rfl] at H; exact H
                                          clear H
                                          have H := H1
                                          clear H1
                                          simp only [Option.some.injEq, Prod.mk.injEq] at H
                                          obtain ⟨rfl, rfl⟩ := H
                                          go_wp2
                                          go_ret2
                                          exact ⟨by first | rfl | (simp; done) | (simp [*]; done) | (simp [Int.tdiv_eq_ediv_of_nonneg]; done), by repeat (first | exact Drawn0.refl _ | apply Drawn0.step)⟩
                                        · replace c49 := Bool.eq_false_iff.mpr c49
                                          subst c49
                                          have H1 : (if x5_6 = true then (some (wrap64 (-x6_38), x4_38)) else (some (x6_38, x4_38))) = some (r1, r2) := by rw [if_neg (show ¬ (false = true) by decide)] at H; exact H
                                          clear H
                                          have H := H1
                                          clear H1
                                          by_cases c50 : x5_6 = true
                                          · subst c50
                                            have H1 : (some (wrap64 (-x6_38), x4_38)) = some (r1, r2) := by rw [if_pos rfl] at H; exact H
                                            clear H
                                            have H := H1
                                            clear H1
                                            simp only [Option.some.injEq, Prod.mk.injEq] at H
                                            obtain ⟨rfl, rfl⟩ := H
                                            go_wp2
                                            go_ret2
                                            exact ⟨by first | rfl | (simp; done) | (simp [*]; done) | (simp [Int.tdiv_eq_ediv_of_nonneg]; done), by repeat (first | exact Drawn0.refl _ | apply Drawn0.step)⟩
                                          · replace c50 := Bool.eq_false_iff.mpr c50
                                            subst c50
                                            have H1 : (some (x6_38, x4_38)) = some (r1, r2) := by rw [if_neg (show ¬ (false = true) by decide)] at H; exact H
                                            clear H
                                            have H := H1
                                            clear H1
                                            simp only [Option.some.injEq, Prod.mk.injEq] at H
                                            obtain ⟨rfl, rfl⟩ := H
                                            go_wp2
                                            go_ret2
                                            exact ⟨by first | rfl | (simp; done) | (simp [*]; done) | (simp [Int.tdiv_eq_ediv_of_nonneg]; done), by repeat (first | exact Drawn0.refl _ | apply Drawn0.step)⟩

end Go.Proofs.YtelaipnanpfniaaDoor.QFnTokens
