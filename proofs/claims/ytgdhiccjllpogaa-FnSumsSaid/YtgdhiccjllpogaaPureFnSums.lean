/- The pure statement of FnSums holds: sums, products and quotients of drawn numbers are as the law says. -/
import Derived.Test.YtgdhiccjllpogaaQFnSumsx3
import Derived.Test.YtgdhiccjllpogaaLim
namespace Go.Proofs.Ytgdhiccjllpogaa.Pure
open Go.RowKit Go.Proofs.Ytgdhiccjllpogaa.QFnSums Go.Proofs.YtgdhiccjllpogaaW.PrintWords Go.Proofs.YtgdhiccjllpogaaW.PrintLast Go.Proofs.YtgdhiccjllpogaaW.PrintMore Go.Proofs.YtgdhiccjllpogaaW.Lims
namespace FnSumsAid

theorem uw (x : Int) : IntKind.u64.wrap x = x % 18446744073709551616 := by rw [IntKind.wrap_u64]
theorem uwrap (x : Int) (h : 0 ≤ x) (h' : x < 18446744073709551616) : IntKind.u64.wrap x = x := by rw [uw]; omega
theorem mask (x : Int) (h : 0 ≤ x) (h' : x < 18446744073709551616) : Go.bits .and .u64 x 4294967295 = x % 4294967296 :=
  Go.bits_mask .u64 64 (by decide) (fun n h0 h1 => uwrap n h0 (by omega)) 32 (by decide) x h (by omega)
theorem mul64 (a b : Int) (ha : 0 ≤ a) (ha' : a ≤ 9000000000000) (hb : 0 ≤ b) (hb' : b ≤ 9000000000000) :
    bits_Mul64.f a b = some (a * b / 18446744073709551616, a * b % 18446744073709551616) := by
  unfold bits_Mul64.f
  rw [mask a ha (by omega), mask b hb (by omega), uw (a * b)]
  have hab : a * b = (a / 4294967296 * (b / 4294967296)) * 18446744073709551616 + (a / 4294967296 * (b % 4294967296) + a % 4294967296 * (b / 4294967296)) * 4294967296 + a % 4294967296 * (b % 4294967296) := by
    have e1 : a = a / 4294967296 * 4294967296 + a % 4294967296 := by omega
    have e2 : b = b / 4294967296 * 4294967296 + b % 4294967296 := by omega
    have e3 := congr (congrArg HMul.hMul e1) e2
    rw [Int.add_mul, Int.mul_add, Int.mul_add, ← Int.mul_assoc (a / 4294967296 * 4294967296), Int.mul_right_comm (a / 4294967296), Int.mul_right_comm (a / 4294967296) 4294967296 (b % 4294967296), ← Int.mul_assoc (a % 4294967296)] at e3
    rw [e3]
    omega
  have p0 : 0 ≤ a % 4294967296 * (b % 4294967296) := Int.mul_nonneg (by omega) (by omega)
  have p1 : a % 4294967296 * (b % 4294967296) ≤ 4294967295 * 4294967295 := Int.mul_le_mul (by omega) (by omega) (by omega) (by omega)
  have q0 : 0 ≤ a / 4294967296 * (b % 4294967296) := Int.mul_nonneg (by omega) (by omega)
  have q1 : a / 4294967296 * (b % 4294967296) ≤ 2096 * 4294967295 := Int.mul_le_mul (by omega) (by omega) (by omega) (by omega)
  have r0 : 0 ≤ a % 4294967296 * (b / 4294967296) := Int.mul_nonneg (by omega) (by omega)
  have r1 : a % 4294967296 * (b / 4294967296) ≤ 4294967295 * 2096 := Int.mul_le_mul (by omega) (by omega) (by omega) (by omega)
  have s0 : 0 ≤ a / 4294967296 * (b / 4294967296) := Int.mul_nonneg (by omega) (by omega)
  have s1 : a / 4294967296 * (b / 4294967296) ≤ 2096 * 2096 := Int.mul_le_mul (by omega) (by omega) (by omega) (by omega)
  rw [hab]
  generalize a % 4294967296 * (b % 4294967296) = p at *
  generalize a / 4294967296 * (b % 4294967296) = q at *
  generalize a % 4294967296 * (b / 4294967296) = r at *
  generalize a / 4294967296 * (b / 4294967296) = s at *
  rw [uwrap p (by omega) (by omega), uwrap q (by omega) (by omega), uwrap r (by omega) (by omega), uwrap s (by omega) (by omega), uwrap (q + p / 4294967296) (by omega) (by omega), mask _ (by omega) (by omega),
    uwrap (s + (q + p / 4294967296) / 4294967296) (by omega) (by omega), uwrap ((q + p / 4294967296) % 4294967296 + r) (by omega) (by omega), uwrap _ (by omega) (by omega)]
  congr 2
  omega

theorem lz : bits_LeadingZeros64.f 1000000 = some 44 := by
  unfold bits_LeadingZeros64.f bits_Len64.f
  have e : Lib.bitLen (Int.toNat 1000000) = 20 := by
    show Lib.bitLen 1000000 = 20
    simp [Lib.bitLen, Lib.bitLenAux]
  rw [if_pos (by omega), e, Option.bind_some, wrap_in (by omega) (by omega)]
  congr 1
theorem ushl (x : Int) (k : Nat) (hk : k ≤ 64) (h : 0 ≤ x * 2 ^ k) (h' : x * 2 ^ k < 18446744073709551616) : shl .u64 x (k : Int) = x * 2 ^ k := by
  unfold shl
  have hb : IntKind.u64.bits = 64 := rfl
  rw [Int.toNat_natCast, hb, Nat.min_eq_left hk, uwrap _ h h']
/-- The long division, at one million. -/
theorem div64 (a b : Int) (ha : 0 ≤ a) (ha' : a < 1000000) (hb : 0 ≤ b) (hb' : b < 18446744073709551616) :
    ∃ m, bits_Div64.fv a b 1000000 = some ((a * 18446744073709551616 + b) / 1000000, m) := by
  rw [bits_Div64.fv_eq, if_neg (by omega), if_neg (by omega)]
  by_cases h : a = 0
  · rw [if_pos h]
    refine ⟨Int.tmod b 1000000, ?_⟩
    rw [Int.tdiv_eq_ediv_of_nonneg hb, uwrap _ (by omega) (by omega), h]
    congr 2
    omega
  · rw [if_neg h, lz, Option.bind_some]
    have w44 : IntKind.u64.wrap (44 : Int) = 44 := by rw [uw]; rfl
    have w20 : IntKind.u64.wrap (64 - 44 : Int) = 20 := by rw [uw]; rfl
    have y : shl .u64 1000000 44 = 17592186044416000000 := by decide
    have sa : shl .u64 a 44 = a * 17592186044416 := by
      have := ushl a 44 (by omega) (by omega) (by omega)
      simpa using this
    have sb : shl .u64 b 44 = (b % 1048576) * 17592186044416 := by
      unfold shl
      rw [show min (Int.toNat 44) (IntKind.u64.bits) = 44 by decide, uw]
      omega
    have rb : shr .u64 b 20 = b / 1048576 := by
      unfold shr
      rw [show min (Int.toNat 20) (IntKind.u64.bits) = 20 by decide]
      rfl
    have or1 : Go.bits .or .u64 (a * 17592186044416) (b / 1048576) = a * 17592186044416 + b / 1048576 :=
      Go.bits_join .u64 64 (by decide) (fun n h0 h1 => uwrap n h0 (by omega)) 44 _ _ (by omega) (by omega) (by omega) (by omega) (by omega) (by omega)
    have c0 : (17592186044416000000 : Int) / 4294967296 = 4096000000 := by decide
    have c1 : Go.bits .and .u64 17592186044416000000 4294967295 = 0 := by rw [mask _ (by omega) (by omega)]; decide
    rw [w44, if_pos (by omega), w20, if_pos (by omega), y, c0, if_neg (by omega), c1, sa, sb, rb, or1, mask _ (by omega) (by omega)]
    have hu : ∃ u, u = a * 17592186044416 + b / 1048576 := ⟨_, rfl⟩
    obtain ⟨u, hu⟩ := hu
    have hv : ∃ v, v = (b % 1048576) * 17592186044416 := ⟨_, rfl⟩
    obtain ⟨v, hv⟩ := hv
    rw [← hu, ← hv]
    have hu0 : 0 ≤ u := by omega
    have hu1 : u < 17592186044416000000 := by omega
    have hv0 : 0 ≤ v := by omega
    have hv1 : v < 18446744073709551616 := by omega
    have hall : (a * 18446744073709551616 + b) / 1000000 = (u * 4294967296 + v / 4294967296) / 4096000000 := by omega
    rw [Int.tdiv_eq_ediv_of_nonneg hu0, uwrap (u / 4096000000) (by omega) (by omega), uwrap (u / 4096000000 * 4096000000) (by omega) (by omega), uwrap (u - u / 4096000000 * 4096000000) (by omega) (by omega)]
    have hc1 : ¬ decide (IntKind.u64.wrap (u / 4096000000 * 0) > IntKind.u64.wrap (IntKind.u64.wrap (4294967296 * (u - u / 4096000000 * 4096000000)) + v / 4294967296)) = true := by
      rw [Int.mul_zero, uw, uw, decide_eq_true_eq]; omega
    have ht : IntKind.u64.wrap (IntKind.u64.wrap (IntKind.u64.wrap (u * 4294967296) + v / 4294967296) - IntKind.u64.wrap (u / 4096000000 * 17592186044416000000)) = (u - u / 4096000000 * 4096000000) * 4294967296 + v / 4294967296 := by
      rw [uw, uw, uw, uw]; omega
    rw [bits_Div64.l0v_eq, if_neg (by omega), bits_Div64.j1v_eq, if_neg hc1, bits_Div64.j2v_eq, if_neg (by omega), ht]
    obtain ⟨t, et⟩ : ∃ t, t = (u - u / 4096000000 * 4096000000) * 4294967296 + v / 4294967296 := ⟨_, rfl⟩
    rw [← et]
    have ht0 : 0 ≤ t := by omega
    have ht1 : t < 17592186044416000000 := by omega
    rw [Int.tdiv_eq_ediv_of_nonneg ht0, uwrap (t / 4096000000) (by omega) (by omega)]
    have hc2 : ∀ z : Int, ¬ decide (IntKind.u64.wrap (t / 4096000000 * 0) > IntKind.u64.wrap z) = true := by
      intro z
      rw [Int.mul_zero, uw, uw, decide_eq_true_eq]; omega
    rw [bits_Div64.l1v_eq, if_neg (by omega), bits_Div64.j4v_eq, if_neg (hc2 _), if_pos (by omega)]
    refine ⟨_, congrArg some (Prod.ext ?_ rfl)⟩
    show IntKind.u64.wrap (IntKind.u64.wrap (u / 4096000000 * 4294967296) + t / 4096000000) = _
    rw [hall, uw, uw]
    omega

/-- What a product comes to: its amount, its sign, whether it is in the range. -/
theorem abs_i (a : Int) (h : -9000000000000 ≤ a) (h' : a ≤ 9000000000000) : impl_amount.f a = some (if a < 0 then -a else a) := by
  unfold impl_amount.f
  by_cases c : a < 0
  · rw [if_pos c, if_pos c, wrap_in (by omega) (by omega), uwrap _ (by omega) (by omega)]
  · rw [if_neg c, if_neg c, uwrap _ (by omega) (by omega)]
theorem abs_s (a : Int) (h : -9000000000000 ≤ a) (h' : a ≤ 9000000000000) : spec_l1Abs.f a = some (if a < 0 then -a else a) := by
  unfold spec_l1Abs.f
  by_cases c : a < 0
  · rw [if_pos c, if_pos c, wrap_in (by omega) (by omega)]
  · rw [if_neg c, if_neg c]
theorem ok_i (a : Int) : impl_DecOk.f a = some (decide (-9000000000000 ≤ a ∧ a ≤ 9000000000000)) := by
  unfold impl_DecOk.f impl_in.f
  by_cases c : -9000000000000 ≤ a
  · rw [if_pos c]; simp [c]
  · rw [if_neg c]; simp [c]
theorem ok_s (a : Int) : spec_DecOk.f a = some (decide (-9000000000000 ≤ a ∧ a ≤ 9000000000000)) := by
  unfold spec_DecOk.f spec_l1In.f
  by_cases c : -9000000000000 ≤ a
  · rw [if_pos c]; simp [c]
  · rw [if_neg c]; simp [c]
def ans (s : Bool) (n : Int) : Int × Bool := if n ≤ 9000000000000 then (if s = true then -n else n, true) else (0, false)
def j2 (n : Int) : Option (Int × Bool) := (spec_l1Right.f n).bind fun b => some (b.1, b.2)
theorem right (n : Int) (s : Bool) (h0 : 0 ≤ n) (h1 : n ≤ 100000000000000000) : j2 (if s = true then wrap64 (-n) else n) = some (ans s n) := by
  unfold j2 spec_l1Right.f
  rw [ok_s]
  unfold ans
  cases s
  · simp only [Bool.false_eq_true, if_false, Option.bind_some]
    by_cases c : n ≤ 9000000000000
    · rw [if_pos (by simp; omega), if_pos c]; rfl
    · rw [if_neg (by simp; omega), if_neg c]; rfl
  · simp only [if_true, Option.bind_some]
    rw [wrap_in (by omega) (by omega)]
    by_cases c : n ≤ 9000000000000
    · rw [if_pos (by simp; omega), if_pos c]; rfl
    · rw [if_neg (by simp; omega), if_neg c]; rfl
theorem parts (A B : Int) (hA : 0 ≤ A) (hB : 0 ≤ B) : A * B / 1000000 = A / 1000000 * B + A % 1000000 * B / 1000000 := by
  have e1 : A = A / 1000000 * 1000000 + A % 1000000 := by omega
  have e2 : A * B = A / 1000000 * B * 1000000 + A % 1000000 * B := by
    have e3 := congrArg (· * B) e1
    simp only [Int.add_mul, Int.mul_right_comm (A / 1000000) 1000000 B] at e3
    exact e3
  rw [e2]
  omega
theorem spec_mul (a b : Int) (ha : -9000000000000 ≤ a) (ha' : a ≤ 9000000000000) (hb : -9000000000000 ≤ b) (hb' : b ≤ 9000000000000) :
    spec_DecMul.j0v a b false = some (ans (decide (a < 0) != decide (b < 0)) ((if a < 0 then -a else a) * (if b < 0 then -b else b) / 1000000)) := by
  rw [spec_DecMul.j0v_eq, if_neg (by simp), abs_s a ha ha', Option.bind_some, abs_s b hb hb', Option.bind_some]
  obtain ⟨A, hA⟩ : ∃ A, A = (if a < 0 then -a else a) := ⟨_, rfl⟩
  obtain ⟨B, hB⟩ : ∃ B, B = (if b < 0 then -b else b) := ⟨_, rfl⟩
  have hA0 : 0 ≤ A := by rw [hA]; split <;> omega
  have hA1 : A ≤ 9000000000000 := by rw [hA]; split <;> omega
  have hB0 : 0 ≤ B := by rw [hB]; split <;> omega
  have hB1 : B ≤ 9000000000000 := by rw [hB]; split <;> omega
  rw [← hA, ← hB]
  clear hA hB
  rw [parts A B hA0 hB0, Int.tdiv_eq_ediv_of_nonneg hA0, Int.tmod_eq_emod_of_nonneg hA0, wrap_in (n := A / 1000000) (by omega) (by omega)]
  have r0 : 0 ≤ A % 1000000 * B := Int.mul_nonneg (by omega) hB0
  have r1 : A % 1000000 * B ≤ 999999 * 9000000000000 := Int.mul_le_mul (by omega) hB1 hB0 (by omega)
  have n0 : 0 ≤ A / 1000000 * B := Int.mul_nonneg (by omega) hB0
  have n1 : A / 1000000 * B ≤ 9000000 * 9000000000000 := Int.mul_le_mul (by omega) hB1 hB0 (by omega)
  have go : ∀ s : Bool, A / 1000000 * B ≤ 9000000000000 → (if s = true then j2 (wrap64 (-(wrap64 (wrap64 (A / 1000000 * B) + wrap64 (Int.tdiv (wrap64 (A % 1000000 * B)) 1000000))))) else j2 (wrap64 (wrap64 (A / 1000000 * B) + wrap64 (Int.tdiv (wrap64 (A % 1000000 * B)) 1000000)))) = some (ans s (A / 1000000 * B + A % 1000000 * B / 1000000)) := by
    intro s hn
    rw [wrap_in (n := A % 1000000 * B) (by omega) (by omega), Int.tdiv_eq_ediv_of_nonneg r0, wrap_in (n := A / 1000000 * B) (by omega) (by omega), wrap_in (n := A % 1000000 * B / 1000000) (by omega) (by omega), wrap_in (n := A / 1000000 * B + A % 1000000 * B / 1000000) (by omega) (by omega)]
    rw [← right (A / 1000000 * B + A % 1000000 * B / 1000000) s (by omega) (by omega)]
    cases s <;> rfl
  by_cases c : B > 0
  · rw [if_pos c, if_neg (by omega), spec_DecMul.j1v_eq]
    have hd0 : 0 ≤ (9000000000000 : Int) / B := Int.ediv_nonneg (by omega) hB0
    have hd1 : (9000000000000 : Int) / B ≤ 9000000000000 := Int.ediv_le_self _ (by omega)
    rw [wrap_in (n := (9000000000000 : Int) / B) (by omega) (by omega)]
    by_cases g : A / 1000000 > 9000000000000 / B
    · rw [if_pos (by simpa using g)]
      have : 9000000000000 < A / 1000000 * B := (Int.ediv_lt_iff_lt_mul c).1 g
      unfold ans
      rw [if_neg (by omega)]
    · rw [if_neg (by simpa using g)]
      have : A / 1000000 * B ≤ 9000000000000 := by
        apply Int.not_lt.1
        intro h
        exact g ((Int.ediv_lt_iff_lt_mul c).2 h)
      exact go _ this
  · rw [if_neg c, spec_DecMul.j1v_eq, if_neg (by simp)]
    have : B = 0 := by omega
    subst this
    exact go _ (by omega)
theorem impl_mul (a b : Int) (ha : -9000000000000 ≤ a) (ha' : a ≤ 9000000000000) (hb : -9000000000000 ≤ b) (hb' : b ≤ 9000000000000) :
    impl_DecMul.j0v a b false = some (ans (decide (a < 0) != decide (b < 0)) ((if a < 0 then -a else a) * (if b < 0 then -b else b) / 1000000)) := by
  rw [impl_DecMul.j0v_eq, if_neg (by simp), abs_i a ha ha', Option.bind_some, abs_i b hb hb', Option.bind_some]
  obtain ⟨A, hA⟩ : ∃ A, A = (if a < 0 then -a else a) := ⟨_, rfl⟩
  obtain ⟨B, hB⟩ : ∃ B, B = (if b < 0 then -b else b) := ⟨_, rfl⟩
  have hA0 : 0 ≤ A := by rw [hA]; split <;> omega
  have hA1 : A ≤ 9000000000000 := by rw [hA]; split <;> omega
  have hB0 : 0 ≤ B := by rw [hB]; split <;> omega
  have hB1 : B ≤ 9000000000000 := by rw [hB]; split <;> omega
  rw [← hA, ← hB]
  clear hA hB
  rw [mul64 A B hA0 hA1 hB0 hB1, Option.bind_some]
  have p0 : 0 ≤ A * B := Int.mul_nonneg hA0 hB0
  generalize A * B = P at *
  by_cases c : P / 18446744073709551616 ≥ 1000000
  · rw [if_pos c]
    unfold ans
    rw [if_neg (by omega)]
  · rw [if_neg c]
    obtain ⟨m, hm⟩ := div64 (P / 18446744073709551616) (P % 18446744073709551616) (by omega) (by omega) (by omega) (by omega)
    have e : P / 18446744073709551616 * 18446744073709551616 + P % 18446744073709551616 = P := by omega
    rw [e] at hm
    rw [hm, Option.bind_some]
    unfold ans
    by_cases g : P / 1000000 > 9000000000000
    · rw [if_pos g, if_neg (by omega)]
    · rw [if_neg g, if_pos (show P / 1000000 ≤ 9000000000000 by omega), wrap_in (n := P / 1000000) (by omega) (by omega), wrap_in (n := -(P / 1000000)) (by omega) (by omega)]
      cases (decide (a < 0) != decide (b < 0)) <;> rfl
theorem both (a b : Int) : ∃ r, spec_DecMul.fv a b = some r ∧ impl_DecMul.fv a b = some r := by
  rw [spec_DecMul.fv_eq, impl_DecMul.fv_eq, ok_s, ok_i, ok_s, ok_i]
  simp only [Option.bind_some]
  have z1 : spec_DecMul.j0v a b true = some (0, false) := by rw [spec_DecMul.j0v_eq, if_pos rfl]
  have z2 : impl_DecMul.j0v a b true = some (0, false) := by rw [impl_DecMul.j0v_eq, if_pos rfl]
  by_cases h : -9000000000000 ≤ a ∧ a ≤ 9000000000000
  · rw [decide_eq_true h, if_pos rfl, if_pos rfl]
    by_cases g : -9000000000000 ≤ b ∧ b ≤ 9000000000000
    · rw [decide_eq_true g]
      exact ⟨_, spec_mul a b h.1 h.2 g.1 g.2, impl_mul a b h.1 h.2 g.1 g.2⟩
    · rw [decide_eq_false g]
      exact ⟨_, z1, z2⟩
  · rw [decide_eq_false h, if_neg (by simp), if_neg (by simp)]
    exact ⟨_, z1, z2⟩

/-! ### draws: each says something, and keeps its place -/
theorem and255 (x : Int) : 0 ≤ Go.bits .and .i64 x 255 ∧ Go.bits .and .i64 x 255 ≤ 255 := by
  have e : Go.bits .and .i64 x 255 = IntKind.i64.wrap ((BitVec.ofInt 64 x &&& BitVec.ofInt 64 255).toNat : Nat) := rfl
  have h : (BitVec.ofInt 64 x &&& BitVec.ofInt 64 255).toNat ≤ 255 := by
    rw [BitVec.toNat_and]
    exact Nat.and_le_right
  rw [e, IntKind.wrap_i64]
  omega
theorem new_run (l : List Int) (hl : l.length ≤ 9223372036854775806) (d : Nat) : ∀ (i : Nat) (s : Int), l.length - i = d → i ≤ l.length → ∃ t, spec_l1New.l0v l s (i : Int) = some (l, 0, t) := by
  induction d with
  | zero =>
    intro i s h1 h2
    rw [spec_l1New.l0v_eq, if_neg (by omega)]
    exact ⟨_, rfl⟩
  | succ d ih =>
    intro i s h1 h2
    rw [spec_l1New.l0v_eq, if_pos (by omega)]
    by_cases h : (i : Int) < 4000
    · rw [if_pos h, if_pos (by omega), wrap_in (n := (i : Int) + 1) (by omega) (by omega), show (i : Int) + 1 = ((i + 1 : Nat) : Int) by omega]
      exact ih (i + 1) _ (by omega) (by omega)
    · rw [if_neg h]
      exact ⟨_, rfl⟩
theorem draw_new (l : List Int) (hl : l.length ≤ 1048576) : ∃ t, spec_l1New.fv l = some (l, 0, t) := by
  rw [spec_l1New.fv_eq]
  exact new_run l (by omega) l.length 0 _ (by omega) (by omega)
/-- A draw's word: what it says has p, and its place stands in the row still. -/
def Draws {α : Type} (l : List Int) (o : Option (α × Int × Int)) (p : α → Prop) : Prop := ∃ r a s, o = some (r, a, s) ∧ p r ∧ 0 ≤ a ∧ a ≤ l.length
theorem draw_byte (l : List Int) (hl : l.length ≤ 1048576) (a s : Int) (h0 : 0 ≤ a) (h1 : a ≤ l.length) : Draws l (spec_l1Byte.f l a s) (fun r => 0 ≤ r ∧ r ≤ 255) := by
  unfold spec_l1Byte.f
  by_cases h : a < (l.length : Int)
  · rw [if_pos h, if_pos h0, wrap_in (n := a + 1) (by omega) (by omega)]
    exact ⟨_, _, _, rfl, and255 _, by omega, by omega⟩
  · rw [if_neg h]
    exact ⟨_, _, _, rfl, and255 _, h0, h1⟩
theorem draw_below (l : List Int) (hl : l.length ≤ 1048576) (a s n : Int) (h0 : 0 ≤ a) (h1 : a ≤ l.length) (hn : 0 < n) : Draws l (spec_l1Below.f l a s n) (fun r => 0 ≤ r ∧ r < n) := by
  unfold spec_l1Below.f
  rw [if_neg (by omega)]
  by_cases h : n ≤ 256
  · rw [if_pos h]
    obtain ⟨r, b, t, e, hr, hb0, hb1⟩ := draw_byte l hl a s h0 h1
    rw [e, Option.bind_some, if_neg (by omega)]
    refine ⟨_, _, _, rfl, ?_, hb0, hb1⟩
    simp only []
    rw [Int.tmod_eq_emod_of_nonneg hr.1]
    exact ⟨Int.emod_nonneg _ (by omega), Int.emod_lt_of_pos _ hn⟩
  · rw [if_neg h]
    obtain ⟨r1, b1, t1, e1, hr1, hb1, hb1'⟩ := draw_byte l hl a s h0 h1
    rw [e1, Option.bind_some]
    obtain ⟨r2, b2, t2, e2, hr2, hb2, hb2'⟩ := draw_byte l hl b1 t1 hb1 hb1'
    simp only []
    rw [e2, Option.bind_some]
    obtain ⟨r3, b3, t3, e3, hr3, hb3, hb3'⟩ := draw_byte l hl b2 t2 hb2 hb2'
    simp only []
    rw [e3, Option.bind_some]
    obtain ⟨r4, b4, t4, e4, hr4, hb4, hb4'⟩ := draw_byte l hl b3 t3 hb3 hb3'
    simp only []
    rw [e4, Option.bind_some, if_neg (by omega)]
    refine ⟨_, _, _, rfl, ?_, hb4, hb4'⟩
    simp only []
    rw [wrap_in (n := r1 * 16777216) (by omega) (by omega), wrap_in (n := r2 * 65536) (by omega) (by omega), wrap_in (n := r3 * 256) (by omega) (by omega), wrap_in (n := r1 * 16777216 + r2 * 65536) (by omega) (by omega), wrap_in (n := r1 * 16777216 + r2 * 65536 + r3 * 256) (by omega) (by omega), wrap_in (n := r1 * 16777216 + r2 * 65536 + r3 * 256 + r4) (by omega) (by omega), Int.tmod_eq_emod_of_nonneg (by omega)]
    exact ⟨Int.emod_nonneg _ (by omega), Int.emod_lt_of_pos _ hn⟩
theorem draw_once (l : List Int) (hl : l.length ≤ 1048576) (a s n : Int) (h0 : 0 ≤ a) (h1 : a ≤ l.length) (hn : 0 < n) : Draws l (spec_l1Once.f l a s n) (fun _ => True) := by
  unfold spec_l1Once.f
  obtain ⟨r, b, t, e, _, hb0, hb1⟩ := draw_below l hl a s n h0 h1 hn
  rw [e, Option.bind_some]
  exact ⟨_, _, _, rfl, trivial, hb0, hb1⟩
theorem draw_pick (l : List Int) (hl : l.length ≤ 1048576) (a s : Int) (m : List Int) (p : Int → Prop) (h0 : 0 ≤ a) (h1 : a ≤ l.length) (hm : 0 < m.length) (hp : ∀ x ∈ m, p x) : Draws l (spec_l1PickInt.f l a s m) p := by
  unfold spec_l1PickInt.f
  obtain ⟨r, b, t, e, hr, hb0, hb1⟩ := draw_below l hl a s m.length h0 h1 (by omega)
  rw [e, Option.bind_some, if_pos hr.1, if_pos hr.2]
  obtain ⟨j, rfl⟩ := Int.eq_ofNat_of_zero_le hr.1
  refine ⟨_, _, _, rfl, ?_, hb0, hb1⟩
  simp only []
  rw [rd_nat m j (by omega)]
  exact hp _ (List.getElem_mem _)

/-- It fits into a whole number. -/
def In64 (n : Int) : Prop := -9223372036854775808 ≤ n ∧ n ≤ 9223372036854775807
theorem draw_dec (l : List Int) (hl : l.length ≤ 1048576) (a s : Int) (h0 : 0 ≤ a) (h1 : a ≤ l.length) : Draws l (spec_l1DrawDec.f l a s) In64 := by
  unfold spec_l1DrawDec.f
  obtain ⟨r, b, t, e, hr, hb0, hb1⟩ := draw_pick l hl a s ([0, 1000000, (-1000000), 1, (-1), 2500000, (-3333333), 7000000, 123456789, 9000000000000, (-9000000000000), 3000000000000, 1500] : List Int) In64 h0 h1 (by decide) (by
    intro x hx
    unfold In64
    simp only [List.mem_cons, List.not_mem_nil, or_false] at hx
    omega)
  rw [e, Option.bind_some]
  exact ⟨_, _, _, rfl, hr, hb0, hb1⟩
theorem draw_any (l : List Int) (hl : l.length ≤ 1048576) (a s : Int) (h0 : 0 ≤ a) (h1 : a ≤ l.length) : Draws l (spec_l1DrawAny.f l a s) In64 := by
  unfold spec_l1DrawAny.f
  obtain ⟨r, b, t, e, _, hb0, hb1⟩ := draw_once l hl a s 6 h0 h1 (by omega)
  rw [e, Option.bind_some]
  by_cases h : r = true
  · rw [if_pos h]
    obtain ⟨r2, b2, t2, e2, hr2, hc0, hc1⟩ := draw_pick l hl b t ([9000000000001, (-9000000000001), 9223372036854775807, (-9223372036854775808)] : List Int) In64 hb0 hb1 (by decide) (by
      intro x hx
      unfold In64
      simp only [List.mem_cons, List.not_mem_nil, or_false] at hx
      omega)
    simp only []
    rw [e2, Option.bind_some]
    exact ⟨_, _, _, rfl, hr2, hc0, hc1⟩
  · rw [if_neg h]
    obtain ⟨r2, b2, t2, e2, hr2, hc0, hc1⟩ := draw_dec l hl b t hb0 hb1
    simp only []
    rw [e2, Option.bind_some]
    exact ⟨_, _, _, rfl, hr2, hc0, hc1⟩

theorem two_add (l : List Int) (hl : l.length ≤ 1048576) : ∃ a b, spec_DrawDecAdd.fv l = some (a, b) ∧ In64 a ∧ In64 b := by
  obtain ⟨t, e⟩ := draw_new l hl
  obtain ⟨r, a, s, e1, h1, g0, g1⟩ := draw_any l hl 0 t (by omega) (by omega)
  obtain ⟨r2, a2, s2, e2, h2, g02, g12⟩ := draw_any l hl a s g0 g1
  refine ⟨r, r2, ?_, h1, h2⟩
  rw [spec_DrawDecAdd.fv_eq]
  simp only [e, e1, e2, Option.bind_some]
theorem two_mul (l : List Int) (hl : l.length ≤ 1048576) : ∃ a b, spec_DrawDecMul.fv l = some (a, b) ∧ In64 a ∧ In64 b := by
  obtain ⟨t, e⟩ := draw_new l hl
  obtain ⟨r, a, s, e1, h1, g0, g1⟩ := draw_any l hl 0 t (by omega) (by omega)
  obtain ⟨r2, a2, s2, e2, h2, g02, g12⟩ := draw_any l hl a s g0 g1
  refine ⟨r, r2, ?_, h1, h2⟩
  rw [spec_DrawDecMul.fv_eq]
  simp only [e, e1, e2, Option.bind_some]
theorem two_div (l : List Int) (hl : l.length ≤ 1048576) : ∃ a b, spec_DrawDecDiv.fv l = some (a, b) ∧ In64 a ∧ In64 b := by
  obtain ⟨t, e⟩ := draw_new l hl
  obtain ⟨r, a, s, e1, h1, g0, g1⟩ := draw_any l hl 0 t (by omega) (by omega)
  obtain ⟨r2, a2, s2, e2, h2, g02, g12⟩ := draw_any l hl a s g0 g1
  refine ⟨r, r2, ?_, h1, h2⟩
  rw [spec_DrawDecDiv.fv_eq]
  simp only [e, e1, e2, Option.bind_some]
theorem two_sub (l : List Int) (hl : l.length ≤ 1048576) : ∃ a b, spec_DrawDecSub.fv l = some (a, b) ∧ In64 a ∧ In64 b := by
  obtain ⟨t, e⟩ := draw_new l hl
  obtain ⟨r, a, s, e1, h1, g0, g1⟩ := draw_any l hl 0 t (by omega) (by omega)
  obtain ⟨r2, a2, s2, e2, h2, g02, g12⟩ := draw_any l hl a s g0 g1
  refine ⟨r, r2, ?_, h1, h2⟩
  rw [spec_DrawDecSub.fv_eq]
  simp only [e, e1, e2, Option.bind_some]
theorem one_int (l : List Int) (hl : l.length ≤ 1048576) : ∃ a, spec_DrawDecInt.fv l = some a ∧ In64 a := by
  obtain ⟨t, e⟩ := draw_new l hl
  obtain ⟨r, a, s, e1, h1, g0, g1⟩ := draw_any l hl 0 t (by omega) (by omega)
  refine ⟨r, ?_, h1⟩
  rw [spec_DrawDecInt.fv_eq]
  simp only [e, e1, Option.bind_some]
theorem one_ok (l : List Int) (hl : l.length ≤ 1048576) : ∃ a, spec_DrawDecOk.fv l = some a ∧ In64 a := by
  obtain ⟨t, e⟩ := draw_new l hl
  obtain ⟨r, a, s, e1, h1, g0, g1⟩ := draw_any l hl 0 t (by omega) (by omega)
  refine ⟨r, ?_, h1⟩
  rw [spec_DrawDecOk.fv_eq]
  simp only [e, e1, Option.bind_some]
def okd (n : Int) : Bool := decide (-9000000000000 ≤ n ∧ n ≤ 9000000000000)
theorem okd_iff (n : Int) : okd n = true ↔ -9000000000000 ≤ n ∧ n ≤ 9000000000000 := by unfold okd; simp
theorem right_i (n : Int) : impl_right.f n = some (if okd n = true then (n, true) else (0, false)) := by
  unfold impl_right.f
  rw [ok_i]
  show (if okd n = true then _ else _) = _
  by_cases h : okd n = true
  · rw [if_pos h, if_pos h]
  · rw [if_neg h, if_neg h]
theorem right_s (n : Int) : spec_l1Right.f n = some (if okd n = true then (n, true) else (0, false)) := by
  unfold spec_l1Right.f
  rw [ok_s]
  show (if okd n = true then _ else _) = _
  by_cases h : okd n = true
  · rw [if_pos h, if_pos h]
  · rw [if_neg h, if_neg h]
def inn (p : Bool) (n : Int) : Int × Bool := if p = true then (if okd n = true then (n, true) else (0, false)) else (0, false)
theorem add_i (a b : Int) : impl_DecAdd.f a b = some (inn (okd a && okd b) (wrap64 (a + b))) := by
  unfold impl_DecAdd.f inn
  rw [ok_i, ok_i, right_i]
  show (if okd a = true then (if okd b = true then _ else _) else _) = _
  cases okd a <;> cases okd b <;> cases okd (wrap64 (a + b)) <;> rfl
theorem add_s (a b : Int) : spec_DecAdd.f a b = some (inn (okd a && okd b) (wrap64 (a + b))) := by
  unfold spec_DecAdd.f inn
  rw [ok_s, ok_s, right_s]
  show (if okd a = true then (if okd b = true then _ else _) else _) = _
  cases okd a <;> cases okd b <;> cases okd (wrap64 (a + b)) <;> rfl
theorem sub_i (a b : Int) : impl_DecSub.f a b = some (inn (okd a && okd b) (wrap64 (a - b))) := by
  unfold impl_DecSub.f inn
  rw [ok_i, ok_i, right_i]
  show (if okd a = true then (if okd b = true then _ else _) else _) = _
  cases okd a <;> cases okd b <;> cases okd (wrap64 (a - b)) <;> rfl
theorem sub_s (a b : Int) : spec_DecSub.f a b = some (inn (okd a && okd b) (wrap64 (a - b))) := by
  unfold spec_DecSub.f inn
  rw [ok_s, ok_s, right_s]
  show (if okd a = true then (if okd b = true then _ else _) else _) = _
  cases okd a <;> cases okd b <;> cases okd (wrap64 (a - b)) <;> rfl
theorem div_i (a b : Int) : impl_DecDiv.f a b = some (inn (okd a && okd b && !decide (b = 0)) (wrap64 (Int.tdiv (wrap64 (a * 1000000)) b))) := by
  unfold impl_DecDiv.f inn
  rw [ok_i, ok_i, right_i]
  show (if okd a = true then (if okd b = true then _ else _) else _) = _
  by_cases h : b = 0
  · rw [decide_eq_true h, if_pos h]; cases okd a <;> cases okd b <;> rfl
  · rw [decide_eq_false h, if_neg h]; cases okd a <;> cases okd b <;> cases okd (wrap64 (Int.tdiv (wrap64 (a * 1000000)) b)) <;> rfl
theorem div_s (a b : Int) : spec_DecDiv.f a b = some (inn (okd a && okd b && !decide (b = 0)) (wrap64 (Int.tdiv (wrap64 (a * 1000000)) b))) := by
  unfold spec_DecDiv.f inn
  rw [ok_s, ok_s, right_s]
  show (if okd a = true then (if okd b = true then _ else _) else _) = _
  by_cases h : b = 0
  · rw [decide_eq_true h, if_pos h]; cases okd a <;> cases okd b <;> rfl
  · rw [decide_eq_false h, if_neg h]; cases okd a <;> cases okd b <;> cases okd (wrap64 (Int.tdiv (wrap64 (a * 1000000)) b)) <;> rfl
theorem mul_all (a b : Int) : ∃ r, spec_DecMul.fv a b = some r ∧ impl_DecMul.fv a b = some r ∧ impl_DecMul.fv b a = some r := by
  rw [spec_DecMul.fv_eq, impl_DecMul.fv_eq, impl_DecMul.fv_eq, ok_s, ok_i, ok_s, ok_i]
  simp only [Option.bind_some]
  have z1 : ∀ a b, spec_DecMul.j0v a b true = some (0, false) := by intro a b; rw [spec_DecMul.j0v_eq, if_pos rfl]
  have z2 : ∀ a b, impl_DecMul.j0v a b true = some (0, false) := by intro a b; rw [impl_DecMul.j0v_eq, if_pos rfl]
  by_cases h : -9000000000000 ≤ a ∧ a ≤ 9000000000000
  · by_cases g : -9000000000000 ≤ b ∧ b ≤ 9000000000000
    · rw [decide_eq_true h, if_pos rfl, if_pos rfl, decide_eq_true g, if_pos rfl]
      refine ⟨_, spec_mul a b h.1 h.2 g.1 g.2, impl_mul a b h.1 h.2 g.1 g.2, ?_⟩
      have e := impl_mul b a g.1 g.2 h.1 h.2
      have hc : ∀ x y : Bool, (x != y) = (y != x) := by decide
      rw [Int.mul_comm (if b < 0 then -b else b), hc] at e
      exact e
    · rw [decide_eq_true h, if_pos rfl, if_pos rfl, decide_eq_false g, if_neg (by simp)]
      exact ⟨_, z1 _ _, z2 _ _, z2 _ _⟩
  · by_cases g : -9000000000000 ≤ b ∧ b ≤ 9000000000000
    · rw [decide_eq_false h, if_neg (by simp), if_neg (by simp), decide_eq_true g, if_pos rfl]
      exact ⟨_, z1 _ _, z2 _ _, z2 _ _⟩
    · rw [decide_eq_false h, if_neg (by simp), if_neg (by simp), decide_eq_false g, if_neg (by simp)]
      exact ⟨_, z1 _ _, z2 _ _, z2 _ _⟩
theorem int_all (a : Int) (h : In64 a) : ∃ t, impl_DecInt.f a = some t ∧ spec_DecInt.f a = some t ∧ impl_DecInt.f t = some t := by
  obtain ⟨h1, h2⟩ := h
  have e := Int.mul_tdiv_add_tmod a 1000000
  have b1 : -9223372036854775808 ≤ a.tdiv 1000000 * 1000000 ∧ a.tdiv 1000000 * 1000000 ≤ 9223372036854775807 := by
    rcases Int.le_total 0 a with h0 | h0
    · rw [Int.tdiv_eq_ediv_of_nonneg h0]; omega
    · obtain ⟨b, rfl⟩ : ∃ b, a = -b := ⟨-a, by omega⟩
      rw [Int.neg_tdiv, Int.tdiv_eq_ediv_of_nonneg (by omega)]; omega
  refine ⟨a.tdiv 1000000 * 1000000, ?_, ?_, ?_⟩
  · unfold impl_DecInt.f
    rw [show a - a.tmod 1000000 = a.tdiv 1000000 * 1000000 by omega, wrap_in b1.1 b1.2]
  · unfold spec_DecInt.f
    rw [wrap_in (n := a.tdiv 1000000) (by omega) (by omega), wrap_in b1.1 b1.2]
  · unfold impl_DecInt.f
    rw [Int.mul_tmod_left, Int.sub_zero, wrap_in b1.1 b1.2]
end FnSumsAid
open FnSumsAid

theorem FnSums : laws_FnSums.Pure := by
  intro l hx
  refine (laws_FnSums.f_lim _).get ?_
  rw [laws_FnSums.fv_eq]
  unfold laws_big.f
  rw [Option.bind_some]
  by_cases hl : (l.length : Int) > 1048576
  · rw [if_pos (by simpa using hl)]
  · have hl' : l.length ≤ 1048576 := by omega
    rw [if_neg (by simpa using hl)]
    obtain ⟨a, b, e1, ha, hb⟩ := two_add l hl'
    obtain ⟨c, d, e2, hc, hd⟩ := two_mul l hl'
    obtain ⟨e, f, e3, he, hf⟩ := two_div l hl'
    obtain ⟨g, h, e4, hg, hh⟩ := two_sub l hl'
    obtain ⟨i, e5, hi⟩ := one_int l hl'
    obtain ⟨o, e6, ho⟩ := one_ok l hl'
    obtain ⟨m, m1, m2, m3⟩ := mul_all c d
    obtain ⟨t, t1, t2, t3⟩ := int_all i hi
    have w3 : laws_FnSums.j3v a i false = some true := by
      rw [laws_FnSums.j3v_eq, if_neg (by simp), div_i, ok_i]
      simp only [Option.bind_some, t1, t3]
      show (if ((inn (okd a && okd 1000000 && !decide ((1000000 : Int) = 0)) (wrap64 ((wrap64 (a * 1000000)).tdiv 1000000))).2 == okd a) = true then _ else _) = _
      have k1 : okd 1000000 = true := by decide
      have k2 : decide ((1000000 : Int) = 0) = false := by decide
      rw [k1, k2]
      cases ha0 : okd a
      · simp [inn]
      · obtain ⟨g1, g2⟩ := (okd_iff a).1 ha0
        rw [wrap_in (n := a * 1000000) (by omega) (by omega), Int.mul_tdiv_cancel _ (by omega), wrap_in (n := a) (by omega) (by omega)]
        simp [inn, ha0]
    have w2 : laws_FnSums.j2v l a false = some true := by
      rw [laws_FnSums.j2v_eq, if_neg (by simp), e3]
      simp only [Option.bind_some, div_i, div_s, e4, sub_i, sub_s, e5, e6]
      simp only [bne_self_eq_false, Bool.false_eq_true, if_false, if_true, t1, t2, ok_i, ok_s, Option.bind_some, w3]
    have w1 : laws_FnSums.j1v l a = some true := by
      rw [laws_FnSums.j1v_eq, e2]
      simp only [Option.bind_some, m1, m2, m3]
      simp only [bne_self_eq_false, Bool.false_eq_true, if_false, if_true, w2]
    rw [e1]
    simp only [Option.bind_some, add_i, add_s]
    rw [if_neg (by simp), bne_self_eq_false, laws_FnSums.j0v_eq, if_neg (by simp), sub_i]
    cases hp : (okd a && okd b)
    · rw [show inn false (wrap64 (a + b)) = (0, false) from rfl, if_neg (by simp)]
      exact w1
    · obtain ⟨ka, kb⟩ := Bool.and_eq_true_iff.1 hp
      obtain ⟨g1, g2⟩ := (okd_iff a).1 ka
      obtain ⟨g3, g4⟩ := (okd_iff b).1 kb
      rw [wrap_in (n := a + b) (by omega) (by omega)]
      cases hq : okd (a + b)
      · rw [show inn true (a + b) = (0, false) by simp [inn, hq], if_neg (by simp)]
        exact w1
      · rw [show inn true (a + b) = (a + b, true) by simp [inn, hq], if_pos rfl]
        simp only [Option.bind_some]
        rw [hq, kb, show a + b - b = a by omega, wrap_in (n := a) (by omega) (by omega), show inn (true && true) a = (a, true) by simp [inn, ka], if_pos rfl, if_pos rfl]
        exact w1

end Go.Proofs.Ytgdhiccjllpogaa.Pure
