/- The pure statement of FnExactDecMul holds: both come to the same product. -/
import Derived.Test.YtgdhiccjllpogaaQFnExactDecMulx2
import Derived.Test.YtgdhiccjllpogaaLim
namespace Go.Proofs.Ytgdhiccjllpogaa.Pure
open Go.RowKit Go.Proofs.Ytgdhiccjllpogaa.QFnExactDecMul Go.Proofs.YtgdhiccjllpogaaW.PrintWords Go.Proofs.YtgdhiccjllpogaaW.PrintLast Go.Proofs.YtgdhiccjllpogaaW.PrintMore Go.Proofs.YtgdhiccjllpogaaW.Lims
namespace FnExactDecMulAid

theorem uw (x : Int) : IntKind.u64.wrap x = x % 18446744073709551616 := by rw [IntKind.wrap_u64]
theorem uwrap (x : Int) (h : 0 ≤ x) (h' : x < 18446744073709551616) : IntKind.u64.wrap x = x := by rw [uw]; omega
theorem mask (x : Int) (h : 0 ≤ x) (h' : x < 18446744073709551616) : Go.bits .and .u64 x 4294967295 = x % 4294967296 :=
  Go.bits_mask .u64 64 (by decide) (fun n h0 h1 => uwrap n h0 (by omega)) 32 (by decide) x h (by omega)
theorem mul64 (a b : Int) (ha : 0 ≤ a) (ha' : a ≤ 9000000000000) (hb : 0 ≤ b) (hb' : b ≤ 9000000000000) :
    bits_Mul64.f a b = some (a * b / 18446744073709551616, a * b % 18446744073709551616) := by
  unfold bits_Mul64.f
  rw [mask a ha (by omega), mask b hb (by omega), uw (a * b)]
  have hab : a * b = (a / 4294967296 * (b / 4294967296)) * 18446744073709551616 + (a / 4294967296 * (b % 4294967296) + a % 4294967296 * (b / 4294967296)) * 4294967296 + a % 4294967296 * (b % 4294967296) := by
    have e1 : a = a / 4294967296 * 4294967296 + a % 4294967296 := by omega
    have e2 : b = b / 4294967296 * 4294967296 + b % 4294967296 := by omega
    have e3 := congr (congrArg HMul.hMul e1) e2
    rw [Int.add_mul, Int.mul_add, Int.mul_add, ← Int.mul_assoc (a / 4294967296 * 4294967296), Int.mul_right_comm (a / 4294967296), Int.mul_right_comm (a / 4294967296) 4294967296 (b % 4294967296), ← Int.mul_assoc (a % 4294967296)] at e3
    rw [e3]
    omega
  have p0 : 0 ≤ a % 4294967296 * (b % 4294967296) := Int.mul_nonneg (by omega) (by omega)
  have p1 : a % 4294967296 * (b % 4294967296) ≤ 4294967295 * 4294967295 := Int.mul_le_mul (by omega) (by omega) (by omega) (by omega)
  have q0 : 0 ≤ a / 4294967296 * (b % 4294967296) := Int.mul_nonneg (by omega) (by omega)
  have q1 : a / 4294967296 * (b % 4294967296) ≤ 2096 * 4294967295 := Int.mul_le_mul (by omega) (by omega) (by omega) (by omega)
  have r0 : 0 ≤ a % 4294967296 * (b / 4294967296) := Int.mul_nonneg (by omega) (by omega)
  have r1 : a % 4294967296 * (b / 4294967296) ≤ 4294967295 * 2096 := Int.mul_le_mul (by omega) (by omega) (by omega) (by omega)
  have s0 : 0 ≤ a / 4294967296 * (b / 4294967296) := Int.mul_nonneg (by omega) (by omega)
  have s1 : a / 4294967296 * (b / 4294967296) ≤ 2096 * 2096 := Int.mul_le_mul (by omega) (by omega) (by omega) (by omega)
  rw [hab]
  generalize a % 4294967296 * (b % 4294967296) = p at *
  generalize a / 4294967296 * (b % 4294967296) = q at *
  generalize a % 4294967296 * (b / 4294967296) = r at *
  generalize a / 4294967296 * (b / 4294967296) = s at *
  rw [uwrap p (by omega) (by omega), uwrap q (by omega) (by omega), uwrap r (by omega) (by omega), uwrap s (by omega) (by omega), uwrap (q + p / 4294967296) (by omega) (by omega), mask _ (by omega) (by omega),
    uwrap (s + (q + p / 4294967296) / 4294967296) (by omega) (by omega), uwrap ((q + p / 4294967296) % 4294967296 + r) (by omega) (by omega), uwrap _ (by omega) (by omega)]
  congr 2
  omega

theorem lz : bits_LeadingZeros64.f 1000000 = some 44 := by
  unfold bits_LeadingZeros64.f bits_Len64.f
  have e : Lib.bitLen (Int.toNat 1000000) = 20 := by
    show Lib.bitLen 1000000 = 20
    simp [Lib.bitLen, Lib.bitLenAux]
  rw [if_pos (by omega), e, Option.bind_some, wrap_in (by omega) (by omega)]
  congr 1
theorem ushl (x : Int) (k : Nat) (hk : k ≤ 64) (h : 0 ≤ x * 2 ^ k) (h' : x * 2 ^ k < 18446744073709551616) : shl .u64 x (k : Int) = x * 2 ^ k := by
  unfold shl
  have hb : IntKind.u64.bits = 64 := rfl
  rw [Int.toNat_natCast, hb, Nat.min_eq_left hk, uwrap _ h h']
/-- The long division, at one million. -/
theorem div64 (a b : Int) (ha : 0 ≤ a) (ha' : a < 1000000) (hb : 0 ≤ b) (hb' : b < 18446744073709551616) :
    ∃ m, bits_Div64.fv a b 1000000 = some ((a * 18446744073709551616 + b) / 1000000, m) := by
  rw [bits_Div64.fv_eq, if_neg (by omega), if_neg (by omega)]
  by_cases h : a = 0
  · rw [if_pos h]
    refine ⟨Int.tmod b 1000000, ?_⟩
    rw [Int.tdiv_eq_ediv_of_nonneg hb, uwrap _ (by omega) (by omega), h]
    congr 2
    omega
  · rw [if_neg h, lz, Option.bind_some]
    have w44 : IntKind.u64.wrap (44 : Int) = 44 := by rw [uw]; rfl
    have w20 : IntKind.u64.wrap (64 - 44 : Int) = 20 := by rw [uw]; rfl
    have y : shl .u64 1000000 44 = 17592186044416000000 := by decide
    have sa : shl .u64 a 44 = a * 17592186044416 := by
      have := ushl a 44 (by omega) (by omega) (by omega)
      simpa using this
    have sb : shl .u64 b 44 = (b % 1048576) * 17592186044416 := by
      unfold shl
      rw [show min (Int.toNat 44) (IntKind.u64.bits) = 44 by decide, uw]
      omega
    have rb : shr .u64 b 20 = b / 1048576 := by
      unfold shr
      rw [show min (Int.toNat 20) (IntKind.u64.bits) = 20 by decide]
      rfl
    have or1 : Go.bits .or .u64 (a * 17592186044416) (b / 1048576) = a * 17592186044416 + b / 1048576 :=
      Go.bits_join .u64 64 (by decide) (fun n h0 h1 => uwrap n h0 (by omega)) 44 _ _ (by omega) (by omega) (by omega) (by omega) (by omega) (by omega)
    have c0 : (17592186044416000000 : Int) / 4294967296 = 4096000000 := by decide
    have c1 : Go.bits .and .u64 17592186044416000000 4294967295 = 0 := by rw [mask _ (by omega) (by omega)]; decide
    rw [w44, if_pos (by omega), w20, if_pos (by omega), y, c0, if_neg (by omega), c1, sa, sb, rb, or1, mask _ (by omega) (by omega)]
    have hu : ∃ u, u = a * 17592186044416 + b / 1048576 := ⟨_, rfl⟩
    obtain ⟨u, hu⟩ := hu
    have hv : ∃ v, v = (b % 1048576) * 17592186044416 := ⟨_, rfl⟩
    obtain ⟨v, hv⟩ := hv
    rw [← hu, ← hv]
    have hu0 : 0 ≤ u := by omega
    have hu1 : u < 17592186044416000000 := by omega
    have hv0 : 0 ≤ v := by omega
    have hv1 : v < 18446744073709551616 := by omega
    have hall : (a * 18446744073709551616 + b) / 1000000 = (u * 4294967296 + v / 4294967296) / 4096000000 := by omega
    rw [Int.tdiv_eq_ediv_of_nonneg hu0, uwrap (u / 4096000000) (by omega) (by omega), uwrap (u / 4096000000 * 4096000000) (by omega) (by omega), uwrap (u - u / 4096000000 * 4096000000) (by omega) (by omega)]
    have hc1 : ¬ decide (IntKind.u64.wrap (u / 4096000000 * 0) > IntKind.u64.wrap (IntKind.u64.wrap (4294967296 * (u - u / 4096000000 * 4096000000)) + v / 4294967296)) = true := by
      rw [Int.mul_zero, uw, uw, decide_eq_true_eq]; omega
    have ht : IntKind.u64.wrap (IntKind.u64.wrap (IntKind.u64.wrap (u * 4294967296) + v / 4294967296) - IntKind.u64.wrap (u / 4096000000 * 17592186044416000000)) = (u - u / 4096000000 * 4096000000) * 4294967296 + v / 4294967296 := by
      rw [uw, uw, uw, uw]; omega
    rw [bits_Div64.l0v_eq, if_neg (by omega), bits_Div64.j1v_eq, if_neg hc1, bits_Div64.j2v_eq, if_neg (by omega), ht]
    obtain ⟨t, et⟩ : ∃ t, t = (u - u / 4096000000 * 4096000000) * 4294967296 + v / 4294967296 := ⟨_, rfl⟩
    rw [← et]
    have ht0 : 0 ≤ t := by omega
    have ht1 : t < 17592186044416000000 := by omega
    rw [Int.tdiv_eq_ediv_of_nonneg ht0, uwrap (t / 4096000000) (by omega) (by omega)]
    have hc2 : ∀ z : Int, ¬ decide (IntKind.u64.wrap (t / 4096000000 * 0) > IntKind.u64.wrap z) = true := by
      intro z
      rw [Int.mul_zero, uw, uw, decide_eq_true_eq]; omega
    rw [bits_Div64.l1v_eq, if_neg (by omega), bits_Div64.j4v_eq, if_neg (hc2 _), if_pos (by omega)]
    refine ⟨_, congrArg some (Prod.ext ?_ rfl)⟩
    show IntKind.u64.wrap (IntKind.u64.wrap (u / 4096000000 * 4294967296) + t / 4096000000) = _
    rw [hall, uw, uw]
    omega

/-- What a product comes to: its amount, its sign, whether it is in the range. -/
theorem abs_i (a : Int) (h : -9000000000000 ≤ a) (h' : a ≤ 9000000000000) : impl_amount.f a = some (if a < 0 then -a else a) := by
  unfold impl_amount.f
  by_cases c : a < 0
  · rw [if_pos c, if_pos c, wrap_in (by omega) (by omega), uwrap _ (by omega) (by omega)]
  · rw [if_neg c, if_neg c, uwrap _ (by omega) (by omega)]
theorem abs_s (a : Int) (h : -9000000000000 ≤ a) (h' : a ≤ 9000000000000) : spec_l1Abs.f a = some (if a < 0 then -a else a) := by
  unfold spec_l1Abs.f
  by_cases c : a < 0
  · rw [if_pos c, if_pos c, wrap_in (by omega) (by omega)]
  · rw [if_neg c, if_neg c]
theorem ok_i (a : Int) : impl_DecOk.f a = some (decide (-9000000000000 ≤ a ∧ a ≤ 9000000000000)) := by
  unfold impl_DecOk.f impl_in.f
  by_cases c : -9000000000000 ≤ a
  · rw [if_pos c]; simp [c]
  · rw [if_neg c]; simp [c]
theorem ok_s (a : Int) : spec_DecOk.f a = some (decide (-9000000000000 ≤ a ∧ a ≤ 9000000000000)) := by
  unfold spec_DecOk.f spec_l1In.f
  by_cases c : -9000000000000 ≤ a
  · rw [if_pos c]; simp [c]
  · rw [if_neg c]; simp [c]
def ans (s : Bool) (n : Int) : Int × Bool := if n ≤ 9000000000000 then (if s = true then -n else n, true) else (0, false)
def j2 (n : Int) : Option (Int × Bool) := (spec_l1Right.f n).bind fun b => some (b.1, b.2)
theorem right (n : Int) (s : Bool) (h0 : 0 ≤ n) (h1 : n ≤ 100000000000000000) : j2 (if s = true then wrap64 (-n) else n) = some (ans s n) := by
  unfold j2 spec_l1Right.f
  rw [ok_s]
  unfold ans
  cases s
  · simp only [Bool.false_eq_true, if_false, Option.bind_some]
    by_cases c : n ≤ 9000000000000
    · rw [if_pos (by simp; omega), if_pos c]; rfl
    · rw [if_neg (by simp; omega), if_neg c]; rfl
  · simp only [if_true, Option.bind_some]
    rw [wrap_in (by omega) (by omega)]
    by_cases c : n ≤ 9000000000000
    · rw [if_pos (by simp; omega), if_pos c]; rfl
    · rw [if_neg (by simp; omega), if_neg c]; rfl
theorem parts (A B : Int) (hA : 0 ≤ A) (hB : 0 ≤ B) : A * B / 1000000 = A / 1000000 * B + A % 1000000 * B / 1000000 := by
  have e1 : A = A / 1000000 * 1000000 + A % 1000000 := by omega
  have e2 : A * B = A / 1000000 * B * 1000000 + A % 1000000 * B := by
    have e3 := congrArg (· * B) e1
    simp only [Int.add_mul, Int.mul_right_comm (A / 1000000) 1000000 B] at e3
    exact e3
  rw [e2]
  omega
theorem spec_mul (a b : Int) (ha : -9000000000000 ≤ a) (ha' : a ≤ 9000000000000) (hb : -9000000000000 ≤ b) (hb' : b ≤ 9000000000000) :
    spec_DecMul.j0v a b false = some (ans (decide (a < 0) != decide (b < 0)) ((if a < 0 then -a else a) * (if b < 0 then -b else b) / 1000000)) := by
  rw [spec_DecMul.j0v_eq, if_neg (by simp), abs_s a ha ha', Option.bind_some, abs_s b hb hb', Option.bind_some]
  obtain ⟨A, hA⟩ : ∃ A, A = (if a < 0 then -a else a) := ⟨_, rfl⟩
  obtain ⟨B, hB⟩ : ∃ B, B = (if b < 0 then -b else b) := ⟨_, rfl⟩
  have hA0 : 0 ≤ A := by rw [hA]; split <;> omega
  have hA1 : A ≤ 9000000000000 := by rw [hA]; split <;> omega
  have hB0 : 0 ≤ B := by rw [hB]; split <;> omega
  have hB1 : B ≤ 9000000000000 := by rw [hB]; split <;> omega
  rw [← hA, ← hB]
  clear hA hB
  rw [parts A B hA0 hB0, Int.tdiv_eq_ediv_of_nonneg hA0, Int.tmod_eq_emod_of_nonneg hA0, wrap_in (n := A / 1000000) (by omega) (by omega)]
  have r0 : 0 ≤ A % 1000000 * B := Int.mul_nonneg (by omega) hB0
  have r1 : A % 1000000 * B ≤ 999999 * 9000000000000 := Int.mul_le_mul (by omega) hB1 hB0 (by omega)
  have n0 : 0 ≤ A / 1000000 * B := Int.mul_nonneg (by omega) hB0
  have n1 : A / 1000000 * B ≤ 9000000 * 9000000000000 := Int.mul_le_mul (by omega) hB1 hB0 (by omega)
  have go : ∀ s : Bool, A / 1000000 * B ≤ 9000000000000 → (if s = true then j2 (wrap64 (-(wrap64 (wrap64 (A / 1000000 * B) + wrap64 (Int.tdiv (wrap64 (A % 1000000 * B)) 1000000))))) else j2 (wrap64 (wrap64 (A / 1000000 * B) + wrap64 (Int.tdiv (wrap64 (A % 1000000 * B)) 1000000)))) = some (ans s (A / 1000000 * B + A % 1000000 * B / 1000000)) := by
    intro s hn
    rw [wrap_in (n := A % 1000000 * B) (by omega) (by omega), Int.tdiv_eq_ediv_of_nonneg r0, wrap_in (n := A / 1000000 * B) (by omega) (by omega), wrap_in (n := A % 1000000 * B / 1000000) (by omega) (by omega), wrap_in (n := A / 1000000 * B + A % 1000000 * B / 1000000) (by omega) (by omega)]
    rw [← right (A / 1000000 * B + A % 1000000 * B / 1000000) s (by omega) (by omega)]
    cases s <;> rfl
  by_cases c : B > 0
  · rw [if_pos c, if_neg (by omega), spec_DecMul.j1v_eq]
    have hd0 : 0 ≤ (9000000000000 : Int) / B := Int.ediv_nonneg (by omega) hB0
    have hd1 : (9000000000000 : Int) / B ≤ 9000000000000 := Int.ediv_le_self _ (by omega)
    rw [wrap_in (n := (9000000000000 : Int) / B) (by omega) (by omega)]
    by_cases g : A / 1000000 > 9000000000000 / B
    · rw [if_pos (by simpa using g)]
      have : 9000000000000 < A / 1000000 * B := (Int.ediv_lt_iff_lt_mul c).1 g
      unfold ans
      rw [if_neg (by omega)]
    · rw [if_neg (by simpa using g)]
      have : A / 1000000 * B ≤ 9000000000000 := by
        apply Int.not_lt.1
        intro h
        exact g ((Int.ediv_lt_iff_lt_mul c).2 h)
      exact go _ this
  · rw [if_neg c, spec_DecMul.j1v_eq, if_neg (by simp)]
    have : B = 0 := by omega
    subst this
    exact go _ (by omega)
theorem impl_mul (a b : Int) (ha : -9000000000000 ≤ a) (ha' : a ≤ 9000000000000) (hb : -9000000000000 ≤ b) (hb' : b ≤ 9000000000000) :
    impl_DecMul.j0v a b false = some (ans (decide (a < 0) != decide (b < 0)) ((if a < 0 then -a else a) * (if b < 0 then -b else b) / 1000000)) := by
  rw [impl_DecMul.j0v_eq, if_neg (by simp), abs_i a ha ha', Option.bind_some, abs_i b hb hb', Option.bind_some]
  obtain ⟨A, hA⟩ : ∃ A, A = (if a < 0 then -a else a) := ⟨_, rfl⟩
  obtain ⟨B, hB⟩ : ∃ B, B = (if b < 0 then -b else b) := ⟨_, rfl⟩
  have hA0 : 0 ≤ A := by rw [hA]; split <;> omega
  have hA1 : A ≤ 9000000000000 := by rw [hA]; split <;> omega
  have hB0 : 0 ≤ B := by rw [hB]; split <;> omega
  have hB1 : B ≤ 9000000000000 := by rw [hB]; split <;> omega
  rw [← hA, ← hB]
  clear hA hB
  rw [mul64 A B hA0 hA1 hB0 hB1, Option.bind_some]
  have p0 : 0 ≤ A * B := Int.mul_nonneg hA0 hB0
  generalize A * B = P at *
  by_cases c : P / 18446744073709551616 ≥ 1000000
  · rw [if_pos c]
    unfold ans
    rw [if_neg (by omega)]
  · rw [if_neg c]
    obtain ⟨m, hm⟩ := div64 (P / 18446744073709551616) (P % 18446744073709551616) (by omega) (by omega) (by omega) (by omega)
    have e : P / 18446744073709551616 * 18446744073709551616 + P % 18446744073709551616 = P := by omega
    rw [e] at hm
    rw [hm, Option.bind_some]
    unfold ans
    by_cases g : P / 1000000 > 9000000000000
    · rw [if_pos g, if_neg (by omega)]
    · rw [if_neg g, if_pos (show P / 1000000 ≤ 9000000000000 by omega), wrap_in (n := P / 1000000) (by omega) (by omega), wrap_in (n := -(P / 1000000)) (by omega) (by omega)]
      cases (decide (a < 0) != decide (b < 0)) <;> rfl
theorem both (a b : Int) : ∃ r, spec_DecMul.fv a b = some r ∧ impl_DecMul.fv a b = some r := by
  rw [spec_DecMul.fv_eq, impl_DecMul.fv_eq, ok_s, ok_i, ok_s, ok_i]
  simp only [Option.bind_some]
  have z1 : spec_DecMul.j0v a b true = some (0, false) := by rw [spec_DecMul.j0v_eq, if_pos rfl]
  have z2 : impl_DecMul.j0v a b true = some (0, false) := by rw [impl_DecMul.j0v_eq, if_pos rfl]
  by_cases h : -9000000000000 ≤ a ∧ a ≤ 9000000000000
  · rw [decide_eq_true h, if_pos rfl, if_pos rfl]
    by_cases g : -9000000000000 ≤ b ∧ b ≤ 9000000000000
    · rw [decide_eq_true g]
      exact ⟨_, spec_mul a b h.1 h.2 g.1 g.2, impl_mul a b h.1 h.2 g.1 g.2⟩
    · rw [decide_eq_false g]
      exact ⟨_, z1, z2⟩
  · rw [decide_eq_false h, if_neg (by simp), if_neg (by simp)]
    exact ⟨_, z1, z2⟩
end FnExactDecMulAid
open FnExactDecMulAid

theorem FnExactDecMul : laws_FnExactDecMul.Pure := by
  intro a b ha hb
  refine (laws_FnExactDecMul.f_lim _ _).get ?_
  obtain ⟨r, e1, e2⟩ := both a b
  rw [laws_FnExactDecMul.fv_eq, e1, e2]
  simp

end Go.Proofs.Ytgdhiccjllpogaa.Pure
