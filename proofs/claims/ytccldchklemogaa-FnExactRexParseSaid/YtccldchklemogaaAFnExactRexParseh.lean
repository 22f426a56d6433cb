/- The walks of the functions that FnExactRexParse reaches, through the abstract machine. -/
import Derived.Test.YtccldchklemogaaAm18
import Derived.Test.YtccldchklemogaaFFnExactRexParse
import Derived.Test.YtccldchklemogaaProg
set_option maxHeartbeats 4000000
set_option maxRecDepth 100000
set_option linter.unusedVariables false
set_option linter.unusedSimpArgs false
namespace Go.Proofs.Ytccldchklemogaa.TFnExactRexParse
open Go Go.RowKit Go.Proofs Go.Proofs.YtccldchklemogaaW.AM Go.Proofs.Ytccldchklemogaa.QFnExactRexParse Go.Proofs.YtccldchklemogaaW.PrintWords Go.Proofs.YtccldchklemogaaW.Pgs
mutual
def e24 : S24 → VV
  | ⟨f0, f1, f2, f3, f4⟩ => .agg [.int .i64 f0, .int .i64 f1, .str f2, .bool f3, .row (e24L f4)]
def e24L : List S24 → List VV
  | [] => []
  | x :: xs => e24 x :: e24L xs
end
theorem e24L_eq : ∀ l, e24L l = l.map e24
  | [] => by rw [e24L]; rfl
  | x :: xs => by rw [e24L, e24L_eq xs]; rfl
@[simp] theorem e24_eq (s : S24) : e24 s = .agg [.int .i64 s.f0, .int .i64 s.f1, .str s.f2, .bool s.f3, .row ((s.f4).map e24)] := by cases s; simp only [e24, e24L_eq]
theorem sz24 (s : S24) : (e24 s).cells.length = 5 := by rw [e24_eq]; rfl
theorem nth24 (l : List S24) (i : Int) (h0 : 0 ≤ i) (h1 : i < (l.length : Int)) : (l.map e24)[i.toNat]? = some (.agg [.int .i64 (rd_T24 l i).f0, .int .i64 (rd_T24 l i).f1, .str (rd_T24 l i).f2, .bool (rd_T24 l i).f3, .row (((rd_T24 l i).f4).map e24)]) := by rw [nthM l e24 z24 i h0 h1, e24_eq]; rfl
def tis : List (Nat × TI) := [(3, ⟨false, 1, 8, [.int .i64 (0)], none, [], some .i64, false, false⟩), (4, ⟨false, 1, 1, [.bool false], none, [], none, false, true⟩), (5, ⟨false, 1, 1, [.int .u8 (0)], none, [], some .u8, false, false⟩), (9, ⟨false, 1, 16, [.string ⟨#[]⟩], none, [], none, true, false⟩), (22, ⟨false, 1, 24, [.slice none 0 0], some 24, [], none, false, false⟩), (24, ⟨true, 5, 64, [.int .i64 (0), .int .i64 (0), .string ⟨#[]⟩, .bool false, .slice none 0 0], none, [(0, 3, 1), (1, 3, 1), (2, 9, 1), (3, 4, 1), (4, 22, 1)], none, false, false⟩), (44, ⟨true, 3, 32, [.string ⟨#[]⟩, .int .i64 (0), .bool false], none, [(0, 9, 1), (1, 3, 1), (2, 4, 1)], none, false, false⟩), (49, ⟨true, 2, 24, [.string ⟨#[]⟩, .bool false], none, [(0, 9, 1), (1, 4, 1)], none, false, false⟩), (81, ⟨false, 1, 24, [.slice none 0 0], some 5, [], none, false, false⟩), (112, ⟨false, 1, 24, [.slice none 0 0], some 4, [], none, false, false⟩)]
def hintF (f r i : Nat) : Nat := bif Nat.beq f 3 && (Nat.beq r 5 && Nat.beq i 0) then 9 else bif Nat.beq f 3 && (Nat.beq r 5 && Nat.beq i 2) then 14 else bif Nat.beq f 3 && (Nat.beq r 8 && Nat.beq i 0) then 9 else bif Nat.beq f 3 && (Nat.beq r 10 && Nat.beq i 0) then 9 else bif Nat.beq f 3 && (Nat.beq r 10 && Nat.beq i 2) then 14 else bif Nat.beq f 3 && (Nat.beq r 16 && Nat.beq i 0) then 9 else bif Nat.beq f 3 && (Nat.beq r 16 && Nat.beq i 2) then 14 else bif Nat.beq f 3 && (Nat.beq r 19 && Nat.beq i 0) then 9 else bif Nat.beq f 3 && (Nat.beq r 19 && Nat.beq i 2) then 14 else bif Nat.beq f 6 && (Nat.beq r 2 && Nat.beq i 0) then 12 else bif Nat.beq f 6 && (Nat.beq r 5 && Nat.beq i 12) then 9 else bif Nat.beq f 6 && (Nat.beq r 5 && Nat.beq i 13) then 14 else bif Nat.beq f 6 && (Nat.beq r 6 && Nat.beq i 0) then 12 else bif Nat.beq f 6 && (Nat.beq r 7 && Nat.beq i 0) then 9 else bif Nat.beq f 6 && (Nat.beq r 900000 && Nat.beq i 0) then 9 else bif Nat.beq f 8 && (Nat.beq r 0 && Nat.beq i 0) then 9 else bif Nat.beq f 19 && (Nat.beq r 7 && Nat.beq i 0) then 1 else bif Nat.beq f 21 && (Nat.beq r 1 && Nat.beq i 2) then 12 else bif Nat.beq f 21 && (Nat.beq r 3 && Nat.beq i 3) then 12 else bif Nat.beq f 21 && (Nat.beq r 3 && Nat.beq i 4) then 12 else bif Nat.beq f 21 && (Nat.beq r 4 && Nat.beq i 1) then 12 else bif Nat.beq f 21 && (Nat.beq r 5 && Nat.beq i 1) then 12 else bif Nat.beq f 21 && (Nat.beq r 5 && Nat.beq i 2) then 12 else bif Nat.beq f 21 && (Nat.beq r 6 && Nat.beq i 1) then 12 else bif Nat.beq f 21 && (Nat.beq r 900000 && Nat.beq i 0) then 9 else bif Nat.beq f 24 && (Nat.beq r 2 && Nat.beq i 2) then 12 else bif Nat.beq f 24 && (Nat.beq r 4 && Nat.beq i 3) then 12 else bif Nat.beq f 24 && (Nat.beq r 4 && Nat.beq i 5) then 12 else bif Nat.beq f 24 && (Nat.beq r 6 && Nat.beq i 3) then 12 else bif Nat.beq f 24 && (Nat.beq r 6 && Nat.beq i 5) then 12 else bif Nat.beq f 24 && (Nat.beq r 8 && Nat.beq i 4) then 12 else bif Nat.beq f 24 && (Nat.beq r 8 && Nat.beq i 6) then 12 else bif Nat.beq f 24 && (Nat.beq r 10 && Nat.beq i 5) then 12 else bif Nat.beq f 24 && (Nat.beq r 10 && Nat.beq i 7) then 12 else bif Nat.beq f 24 && (Nat.beq r 12 && Nat.beq i 2) then 12 else bif Nat.beq f 24 && (Nat.beq r 12 && Nat.beq i 4) then 13 else bif Nat.beq f 35 && (Nat.beq r 9 && Nat.beq i 0) then 1 else bif Nat.beq f 38 && (Nat.beq r 1 && Nat.beq i 0) then 12 else bif Nat.beq f 38 && (Nat.beq r 4 && Nat.beq i 3) then 12 else bif Nat.beq f 38 && (Nat.beq r 4 && Nat.beq i 4) then 12 else bif Nat.beq f 38 && (Nat.beq r 5 && Nat.beq i 1) then 12 else bif Nat.beq f 38 && (Nat.beq r 7 && Nat.beq i 0) then 12 else bif Nat.beq f 38 && (Nat.beq r 9 && Nat.beq i 1) then 12 else bif Nat.beq f 38 && (Nat.beq r 9 && Nat.beq i 2) then 12 else bif Nat.beq f 38 && (Nat.beq r 10 && Nat.beq i 1) then 12 else bif Nat.beq f 38 && (Nat.beq r 900000 && Nat.beq i 0) then 9 else bif Nat.beq f 47 && (Nat.beq r 13 && Nat.beq i 2) then 4 else bif Nat.beq f 49 && (Nat.beq r 4 && Nat.beq i 0) then 9 else bif Nat.beq f 49 && (Nat.beq r 6 && Nat.beq i 2) then 9 else bif Nat.beq f 49 && (Nat.beq r 6 && Nat.beq i 3) then 12 else bif Nat.beq f 49 && (Nat.beq r 6 && Nat.beq i 4) then 12 else bif Nat.beq f 49 && (Nat.beq r 900000 && Nat.beq i 0) then 9 else bif Nat.beq f 57 && (Nat.beq r 8 && Nat.beq i 0) then 9 else bif Nat.beq f 57 && (Nat.beq r 10 && Nat.beq i 0) then 12 else bif Nat.beq f 57 && (Nat.beq r 12 && Nat.beq i 0) then 12 else bif Nat.beq f 57 && (Nat.beq r 14 && Nat.beq i 0) then 12 else bif Nat.beq f 57 && (Nat.beq r 21 && Nat.beq i 0) then 12 else bif Nat.beq f 57 && (Nat.beq r 23 && Nat.beq i 2) then 12 else bif Nat.beq f 57 && (Nat.beq r 28 && Nat.beq i 0) then 12 else bif Nat.beq f 57 && (Nat.beq r 29 && Nat.beq i 2) then 12 else bif Nat.beq f 57 && (Nat.beq r 900000 && Nat.beq i 0) then 9 else bif Nat.beq f 71 && (Nat.beq r 1 && Nat.beq i 2) then 12 else bif Nat.beq f 71 && (Nat.beq r 5 && Nat.beq i 0) then 12 else bif Nat.beq f 71 && (Nat.beq r 29 && Nat.beq i 0) then 9 else bif Nat.beq f 71 && (Nat.beq r 900000 && Nat.beq i 0) then 9 else 0
def cutF (f n : Nat) : Bool := Nat.beq f 3 && (Nat.beq n 32 || Nat.beq n 57 || Nat.beq n 200005 || Nat.beq n 200016) || Nat.beq f 35 && (Nat.beq n 100000) || Nat.beq f 38 && (Nat.beq n 100000) || Nat.beq f 56 && (Nat.beq n 200001) || Nat.beq f 70 && (Nat.beq n 13 || Nat.beq n 98 || Nat.beq n 120 || Nat.beq n 148 || Nat.beq n 200007 || Nat.beq n 200011 || Nat.beq n 200021) || Nat.beq f 71 && (Nat.beq n 70 || Nat.beq n 200013)
def effF (f : Nat) : Bool := Nat.beq f 6 || Nat.beq f 8 || Nat.beq f 19 || Nat.beq f 21 || Nat.beq f 24 || Nat.beq f 35 || Nat.beq f 36 || Nat.beq f 38 || Nat.beq f 39 || Nat.beq f 47 || Nat.beq f 48 || Nat.beq f 49 || Nat.beq f 56 || Nat.beq f 57 || Nat.beq f 70 || Nat.beq f 71
def postF (f r i : Nat) : Nat := bif Nat.beq f 24 && (Nat.beq r 12 && Nat.beq i 6) then 1 else 0
def tyF (t j : Nat) : Nat := bif Nat.beq t 23 && Nat.beq j 4 then 24 else bif Nat.beq t 23 && Nat.beq j 999999 then 5 else bif Nat.beq t 24 && Nat.beq j 4 then 24 else bif Nat.beq t 24 && Nat.beq j 999999 then 5 else bif Nat.beq t 55 && Nat.beq j 3 then 56 else bif Nat.beq t 55 && Nat.beq j 999999 then 4 else bif Nat.beq t 56 && Nat.beq j 3 then 56 else bif Nat.beq t 56 && Nat.beq j 999999 then 4 else bif Nat.beq t 57 && Nat.beq j 4 then 56 else bif Nat.beq t 57 && Nat.beq j 8 then 56 else bif Nat.beq t 57 && Nat.beq j 999999 then 9 else bif Nat.beq t 58 && Nat.beq j 4 then 56 else bif Nat.beq t 58 && Nat.beq j 8 then 56 else bif Nat.beq t 58 && Nat.beq j 999999 then 9 else bif Nat.beq t 61 && Nat.beq j 3 then 62 else bif Nat.beq t 61 && Nat.beq j 999999 then 4 else bif Nat.beq t 62 && Nat.beq j 3 then 62 else bif Nat.beq t 62 && Nat.beq j 999999 then 4 else bif Nat.beq t 63 && Nat.beq j 4 then 62 else bif Nat.beq t 63 && Nat.beq j 8 then 62 else bif Nat.beq t 63 && Nat.beq j 999999 then 9 else bif Nat.beq t 64 && Nat.beq j 4 then 62 else bif Nat.beq t 64 && Nat.beq j 8 then 62 else bif Nat.beq t 64 && Nat.beq j 999999 then 9 else 0
def orcF (f : FuncId) (xs : List A0) (obs : List Ob) (rs : List A0) (obs2 : List Ob) : Prop := (∃ s c, f = 78 ∧ xs = [.val (.str s), .val (.int .u8 c)] ∧ obs = [] ∧ rs = [.val (.int .i64 (Lib.indexByte s.data.toList c.toNat.toUInt8))] ∧ obs2 = []) ∨ False
noncomputable def G : Env := { P := Try.prog, ti := assoc tis, fn := assoc [(3, Try.f3), (5, Try.f5), (6, Try.f6), (7, Try.f7), (8, Try.f8), (9, Try.f9), (19, Try.f19), (20, Try.f20), (21, Try.f21), (22, Try.f22), (23, Try.f23), (24, Try.f24), (25, Try.f25), (33, Try.f33), (35, Try.f35), (36, Try.f36), (37, Try.f37), (38, Try.f38), (39, Try.f39), (47, Try.f47), (48, Try.f48), (49, Try.f49), (56, Try.f56), (57, Try.f57), (58, Try.f58), (70, Try.f70), (71, Try.f71), (78, Try.f78)], hint := hintF, eff := effF, cut := cutF, orc := orcF, tab := { ty := tyF }, post := postF }
theorem orc78 {s : ByteArray} {b : Int} {r : Int} (h : strings_IndexByte.f s b = some r) : CE G 78 [.val (.str s), .val (.int .u8 b)] [] [.val (.int .i64 r)] [] := by
  cases h; exact CE.orc (.inl ⟨s, b, rfl, rfl, rfl, rfl, rfl⟩)
theorem zz {p q : Prop} (h : q) (e : Hq q → p := by
  intro q_
  repeat ((conv => whnf); first
    | (refine And.intro ?_ ?_; (first | with_reducible exact zdraw | exact zside | exact szok_map sz24 _))
    | (apply Or.inl; refine And.intro zq ?_)
    | (apply Or.inr; refine And.intro zq ?_)
    | with_reducible refine z_bits ?_
    | refine z_wrap' ?_
    | refine z_wrap8 ?_
    | refine Exists.intro _ (And.intro (List.length_map _) ?_)
    | (refine z_byte ?_ ?_ ?_; (exact zside); (exact zside); intro b_ hb_; (try rw [hb_]); clear hb_ b_)
    | (refine Exists.intro _ (And.intro (nth24 _ _ ?_ ?_) ?_); (exact zside); (exact zside))
    | (refine Exists.intro _ (And.intro (nthR _ _ false _ ?_ ?_) ?_); (exact zside); (exact zside))
    | (refine Exists.intro _ (And.intro (nthR _ _ (0 : Int) _ ?_ ?_) ?_); (exact zside); (exact zside))
    | refine z_max ?_
    | refine z_min ?_
    | refine z_mod ?_
    | refine z_bytes ?_
    | refine z_wrapk ?_
    | refine z_shr ?_)
  (try conv => whnf)
  exact q_.out) : p := e ⟨h⟩
theorem zl {p q : Prop} (h : q) (e : Hq q → p := by
  intro q_
  repeat ((conv => whnf); first
    | (refine And.intro ?_ ?_; (first | with_reducible exact zdraw | exact zside | exact szok_map sz24 _))
    | (apply Or.inl; refine And.intro zq ?_)
    | (apply Or.inr; refine And.intro zq ?_)
    | with_reducible refine z_bits ?_
    | refine z_wrap' ?_
    | refine z_wrap8 ?_
    | refine Exists.intro _ (And.intro (List.length_map _) ?_)
    | (refine z_byte ?_ ?_ ?_; (exact zside); (exact zside); intro b_ hb_; (try rw [hb_]); clear hb_ b_)
    | (refine Exists.intro _ (And.intro (nth24 _ _ ?_ ?_) ?_); (exact zside); (exact zside))
    | (refine Exists.intro _ (And.intro (nthR _ _ false _ ?_ ?_) ?_); (exact zside); (exact zside))
    | (refine Exists.intro _ (And.intro (nthR _ _ (0 : Int) _ ?_ ?_) ?_); (exact zside); (exact zside))
    | refine z_max ?_
    | refine z_min ?_
    | refine z_mod ?_
    | refine z_bytes ?_
    | refine z_wrapk ?_
    | refine z_shr ?_)
  (try conv => whnf)
  try (apply Or.inl; refine zK ?_)
  exact q_.out) : p := e ⟨h⟩
theorem zr {p q : Prop} (h : q) (e : Hq q → p := by
  intro q_
  repeat ((conv => whnf); first
    | (refine And.intro ?_ ?_; (first | with_reducible exact zdraw | exact zside | exact szok_map sz24 _))
    | (apply Or.inl; refine And.intro zq ?_)
    | (apply Or.inr; refine And.intro zq ?_)
    | with_reducible refine z_bits ?_
    | refine z_wrap' ?_
    | refine z_wrap8 ?_
    | refine Exists.intro _ (And.intro (List.length_map _) ?_)
    | (refine z_byte ?_ ?_ ?_; (exact zside); (exact zside); intro b_ hb_; (try rw [hb_]); clear hb_ b_)
    | (refine Exists.intro _ (And.intro (nth24 _ _ ?_ ?_) ?_); (exact zside); (exact zside))
    | (refine Exists.intro _ (And.intro (nthR _ _ false _ ?_ ?_) ?_); (exact zside); (exact zside))
    | (refine Exists.intro _ (And.intro (nthR _ _ (0 : Int) _ ?_ ?_) ?_); (exact zside); (exact zside))
    | refine z_max ?_
    | refine z_min ?_
    | refine z_mod ?_
    | refine z_bytes ?_
    | refine z_wrapk ?_
    | refine z_shr ?_)
  (try conv => whnf)
  try (apply Or.inr; refine zK ?_)
  exact q_.out) : p := e ⟨h⟩

end Go.Proofs.Ytccldchklemogaa.TFnExactRexParse
