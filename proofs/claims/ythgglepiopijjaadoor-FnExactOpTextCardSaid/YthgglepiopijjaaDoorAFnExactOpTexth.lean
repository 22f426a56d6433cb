/- The walks of the functions that FnExactOpText reaches, through the abstract machine. -/
import Derived.Test.YthgglepiopijjaaDoorAm18
import Derived.Test.YthgglepiopijjaaDoorFFnExactOpText
import Derived.Test.YthgglepiopijjaaDoorProg
set_option maxHeartbeats 4000000
set_option maxRecDepth 100000
set_option linter.unusedVariables false
set_option linter.unusedSimpArgs false
namespace Go.Proofs.YthgglepiopijjaaDoor.TFnExactOpText
open Go Go.RowKit Go.Proofs Go.Proofs.YthgglepiopijjaaDoorW.AM Go.Proofs.YthgglepiopijjaaDoor.QFnExactOpText Go.Proofs.YthgglepiopijjaaDoorW.PrintWords Go.Proofs.YthgglepiopijjaaDoorW.Pgs
variable {m_ : Int}
def e23 (s : S23) : VV := .agg [.int .i64 s.f0, .int .i64 s.f1, .str s.f2]
theorem sz23 (s : S23) : (e23 s).cells.length = 3 := rfl
theorem nth23 (l : List S23) (i : Int) (h0 : 0 ≤ i) (h1 : i < (l.length : Int)) : (l.map e23)[i.toNat]? = some (.agg [.int .i64 (rd_T23 l i).f0, .int .i64 (rd_T23 l i).f1, .str (rd_T23 l i).f2]) := nthM l e23 z23 i h0 h1
def e26 (s : S26) : VV := .agg [.int .i64 s.f0, .int .i64 s.f1, .str s.f2]
theorem sz26 (s : S26) : (e26 s).cells.length = 3 := rfl
theorem nth26 (l : List S26) (i : Int) (h0 : 0 ≤ i) (h1 : i < (l.length : Int)) : (l.map e26)[i.toNat]? = some (.agg [.int .i64 (rd_T26 l i).f0, .int .i64 (rd_T26 l i).f1, .str (rd_T26 l i).f2]) := nthM l e26 z26 i h0 h1
def tis : List (Nat × TI) := [(3, ⟨false, 1, 8, [.int .i64 (0)], none, [], some .i64, false, false⟩), (4, ⟨false, 1, 1, [.bool false], none, [], none, false, true⟩), (5, ⟨false, 1, 1, [.int .u8 (0)], none, [], some .u8, false, false⟩), (9, ⟨false, 1, 16, [.string ⟨#[]⟩], none, [], none, true, false⟩), (21, ⟨false, 1, 4, [.int .i32 (0)], none, [], some .i32, false, false⟩), (23, ⟨true, 3, 32, [.int .i64 (0), .int .i64 (0), .string ⟨#[]⟩], none, [(0, 3, 1), (1, 3, 1), (2, 9, 1)], none, false, false⟩), (26, ⟨true, 3, 32, [.int .i64 (0), .int .i64 (0), .string ⟨#[]⟩], none, [(0, 3, 1), (1, 3, 1), (2, 9, 1)], none, false, false⟩), (29, ⟨false, 1, 24, [.slice none 0 0], some 9, [], none, false, false⟩), (36, ⟨false, 1, 24, [.slice none 0 0], some 5, [], none, false, false⟩)]
def hintF (f r i : Nat) : Nat := 0
def cutF (f n : Nat) : Bool := Nat.beq f 5 && (Nat.beq n 25 || Nat.beq n 100000 || Nat.beq n 200020) || Nat.beq f 11 && (Nat.beq n 16) || Nat.beq f 12 && (Nat.beq n 10)
def effF (f : Nat) : Bool := false
def tabF (m : Int) (b j : Nat) : Option Value := bif Nat.beq b 0 then (Lib.pow10Tab[j]?).map (Value.int .u64) else none
def tabZ (b : Nat) : Option Nat := bif Nat.beq b 0 then some 20 else none
def orcF (f : FuncId) (xs : List A0) (obs : List Ob) (rs : List A0) (obs2 : List Ob) : Prop := (∃ s, f = 13 ∧ xs = [.val (.int .i64 s)] ∧ obs = [] ∧ rs = [.val (.str ⟨(Lib.itoa s).toArray⟩)] ∧ obs2 = [] ∧ (-9223372036854775808 ≤ s ∧ s ≤ 9223372036854775807)) ∨ (∃ s c, f = 18 ∧ xs = [.val (.str s), .val (.str ⟨#[c]⟩)] ∧ obs = [] ∧ rs = [.val (.str ⟨(Lib.trimRightB s.data.toList c).toArray⟩)] ∧ obs2 = [] ∧ (c.toNat < 128 ∧ s.size ≤ 9223372036854775807)) ∨ False
noncomputable def G (m_ : Int) : Env := { P := Tryd.prog, ti := assoc tis, fn := assoc [(3, Tryd.f3), (4, Tryd.f4), (5, Tryd.f5), (6, Tryd.f6), (7, Tryd.f7), (8, Tryd.f8), (9, Tryd.f9), (10, Tryd.f10), (11, Tryd.f11), (12, Tryd.f12), (13, Tryd.f13), (14, Tryd.f14), (15, Tryd.f15), (16, Tryd.f16), (17, Tryd.f17), (18, Tryd.f18)], hint := hintF, eff := effF, cut := cutF, orc := orcF, tab := { c := tabF m_, z := tabZ } }
theorem orc13 {s : Int} {r : ByteArray} (h : strconv_Itoa.f s = some r) : CE (G m_) 13 [.val (.int .i64 s)] [] [.val (.str r)] [] := by
  unfold strconv_Itoa.f at h; split at h
  · rename_i hc; cases h; exact CE.orc (.inl ⟨s, rfl, rfl, rfl, rfl, rfl, hc⟩)
  · cases h
theorem orc18 {s b : ByteArray} {r : ByteArray} (h : strings_TrimRight.f s b = some r) : CE (G m_) 18 [.val (.str s), .val (.str b)] [] [.val (.str r)] [] := by
  unfold strings_TrimRight.f at h
  split at h
  · rename_i c_ hc_
    have e_ : b = ⟨#[c_]⟩ := by
      obtain ⟨⟨l_⟩⟩ := b
      simp only at hc_
      subst hc_
      rfl
    subst e_
    split at h
    · rename_i hc; cases h; exact CE.orc (.inr (.inl ⟨s, c_, rfl, rfl, rfl, rfl, rfl, hc⟩))
    · cases h
  · cases h
theorem zz {p q : Prop} (h : q) (e : Hq q → p := by
  intro q_
  repeat ((conv => whnf); first
    | (refine And.intro ?_ ?_; (first | with_reducible exact zdraw | exact zside | exact szok_map sz23 _ | exact szok_map sz26 _))
    | (apply Or.inl; refine And.intro zq ?_)
    | (apply Or.inr; refine And.intro zq ?_)
    | with_reducible refine z_bits ?_
    | refine z_wrap' ?_
    | refine z_wrap8 ?_
    | refine Exists.intro _ (And.intro (List.length_map _) ?_)
    | (refine z_byte ?_ ?_ ?_; (exact zside); (exact zside); intro b_ hb_; (try rw [hb_]); clear hb_ b_)
    | (refine Exists.intro _ (And.intro (nth23 _ _ ?_ ?_) ?_); (exact zside); (exact zside))
    | (refine Exists.intro _ (And.intro (nth26 _ _ ?_ ?_) ?_); (exact zside); (exact zside))
    | (refine Exists.intro _ (And.intro (nthR _ _ (0 : Int) _ ?_ ?_) ?_); (exact zside); (exact zside))
    | (refine Exists.intro _ (And.intro (nthR _ _ ByteArray.empty _ ?_ ?_) ?_); (exact zside); (exact zside))
    | refine z_max ?_
    | refine z_min ?_
    | refine z_mod ?_
    | refine z_bytes ?_
    | refine z_wrapk ?_
    | refine z_shr ?_)
  (try conv => whnf)
  exact q_.out) : p := e ⟨h⟩

end Go.Proofs.YthgglepiopijjaaDoor.TFnExactOpText
