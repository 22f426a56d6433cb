/- The walks of the functions that FnBrackets reaches, through the abstract machine. -/
import Derived.Test.YtfdpehmefgfjgaaAm18
import Derived.Test.YtfdpehmefgfjgaaFFnBrackets
import Derived.Test.YtfdpehmefgfjgaaProg
set_option maxHeartbeats 4000000
set_option maxRecDepth 100000
set_option linter.unusedVariables false
set_option linter.unusedSimpArgs false
namespace Go.Proofs.Ytfdpehmefgfjgaa.TFnBrackets
open Go Go.RowKit Go.Proofs Go.Proofs.YtfdpehmefgfjgaaW.AM Go.Proofs.Ytfdpehmefgfjgaa.QFnBrackets Go.Proofs.YtfdpehmefgfjgaaW.PrintWords Go.Proofs.YtfdpehmefgfjgaaW.Pgs
variable {m_ : Int}
mutual
def e26 : S26 → VV
  | ⟨f0, f1, f2, f3, f4⟩ => .agg [.int .i64 f0, .int .i64 f1, .str f2, .bool f3, .row (e26L f4)]
def e26L : List S26 → List VV
  | [] => []
  | x :: xs => e26 x :: e26L xs
end
theorem e26L_eq : ∀ l, e26L l = l.map e26
  | [] => by rw [e26L]; rfl
  | x :: xs => by rw [e26L, e26L_eq xs]; rfl
@[simp] theorem e26_eq (s : S26) : e26 s = .agg [.int .i64 s.f0, .int .i64 s.f1, .str s.f2, .bool s.f3, .row ((s.f4).map e26)] := by cases s; simp only [e26, e26L_eq]
theorem sz26 (s : S26) : (e26 s).cells.length = 5 := by rw [e26_eq]; rfl
theorem nth26 (l : List S26) (i : Int) (h0 : 0 ≤ i) (h1 : i < (l.length : Int)) : (l.map e26)[i.toNat]? = some (.agg [.int .i64 (rd_T26 l i).f0, .int .i64 (rd_T26 l i).f1, .str (rd_T26 l i).f2, .bool (rd_T26 l i).f3, .row (((rd_T26 l i).f4).map e26)]) := by rw [nthM l e26 z26 i h0 h1, e26_eq]; rfl
def e82 (s : S82) : VV := .agg [.int .i64 s.f0, .int .i64 s.f1, .str s.f2, .bool s.f3, .int .i64 s.f4, .int .i64 s.f5]
theorem sz82 (s : S82) : (e82 s).cells.length = 6 := rfl
theorem nth82 (l : List S82) (i : Int) (h0 : 0 ≤ i) (h1 : i < (l.length : Int)) : (l.map e82)[i.toNat]? = some (.agg [.int .i64 (rd_T82 l i).f0, .int .i64 (rd_T82 l i).f1, .str (rd_T82 l i).f2, .bool (rd_T82 l i).f3, .int .i64 (rd_T82 l i).f4, .int .i64 (rd_T82 l i).f5]) := nthM l e82 z82 i h0 h1
def tis : List (Nat × TI) := [(3, ⟨false, 1, 8, [.int .i64 (0)], none, [], some .i64, false, false⟩), (4, ⟨false, 1, 1, [.bool false], none, [], none, false, true⟩), (5, ⟨false, 1, 1, [.int .u8 (0)], none, [], some .u8, false, false⟩), (9, ⟨false, 1, 16, [.string ⟨#[]⟩], none, [], none, true, false⟩), (22, ⟨false, 1, 24, [.slice none 0 0], some 5, [], none, false, false⟩), (24, ⟨false, 1, 24, [.slice none 0 0], some 26, [], none, false, false⟩), (26, ⟨true, 5, 64, [.int .i64 (0), .int .i64 (0), .string ⟨#[]⟩, .bool false, .slice none 0 0], none, [(0, 3, 1), (1, 3, 1), (2, 9, 1), (3, 4, 1), (4, 24, 1)], none, false, false⟩), (29, ⟨false, 1, 24, [.slice none 0 0], some 3, [], none, false, false⟩), (32, ⟨false, 1, 24, [.slice none 0 0], some 82, [], none, false, false⟩), (54, ⟨false, 1, 24, [.slice none 0 0], some 9, [], none, false, false⟩), (70, ⟨false, 1, 24, [.slice none 0 0], some 4, [], none, false, false⟩), (82, ⟨true, 6, 56, [.int .i64 (0), .int .i64 (0), .string ⟨#[]⟩, .bool false, .int .i64 (0), .int .i64 (0)], none, [(0, 3, 1), (1, 3, 1), (2, 9, 1), (3, 4, 1), (4, 3, 1), (5, 3, 1)], none, false, false⟩), (89, ⟨true, 3, 32, [.string ⟨#[]⟩, .int .i64 (0), .bool false], none, [(0, 9, 1), (1, 3, 1), (2, 4, 1)], none, false, false⟩), (94, ⟨true, 2, 24, [.string ⟨#[]⟩, .bool false], none, [(0, 9, 1), (1, 4, 1)], none, false, false⟩), (127, ⟨true, 3, 40, [.slice none 0 0, .int .i64 (0), .int .i64 (0)], none, [(0, 22, 1), (1, 3, 1), (2, 3, 1)], none, false, false⟩), (146, ⟨false, 1, 8, [.int .u64 (0)], none, [], some .u64, false, false⟩)]
def hintF (f r i : Nat) : Nat := bif Nat.beq f 13 && (Nat.beq r 3 && Nat.beq i 1) then 6 else bif Nat.beq f 13 && (Nat.beq r 3 && Nat.beq i 5) then 1 else bif Nat.beq f 53 && (Nat.beq r 22 && Nat.beq i 5) then 8 else bif Nat.beq f 53 && (Nat.beq r 22 && Nat.beq i 7) then 7 else bif Nat.beq f 53 && (Nat.beq r 22 && Nat.beq i 8) then 7 else bif Nat.beq f 53 && (Nat.beq r 22 && Nat.beq i 9) then 7 else bif Nat.beq f 53 && (Nat.beq r 29 && Nat.beq i 5) then 8 else bif Nat.beq f 53 && (Nat.beq r 29 && Nat.beq i 7) then 7 else bif Nat.beq f 53 && (Nat.beq r 29 && Nat.beq i 8) then 7 else bif Nat.beq f 53 && (Nat.beq r 29 && Nat.beq i 9) then 7 else bif Nat.beq f 58 && (Nat.beq r 7 && Nat.beq i 0) then 1 else bif Nat.beq f 60 && (Nat.beq r 6 && Nat.beq i 0) then 1 else bif Nat.beq f 72 && (Nat.beq r 4 && Nat.beq i 4) then 4 else bif Nat.beq f 73 && (Nat.beq r 1 && Nat.beq i 1) then 4 else bif Nat.beq f 93 && (Nat.beq r 6 && Nat.beq i 5) then 8 else bif Nat.beq f 93 && (Nat.beq r 6 && Nat.beq i 6) then 7 else bif Nat.beq f 99 && (Nat.beq r 9 && Nat.beq i 0) then 1 else bif Nat.beq f 102 && (Nat.beq r 10 && Nat.beq i 0) then 1 else bif Nat.beq f 121 && (Nat.beq r 13 && Nat.beq i 2) then 4 else bif Nat.beq f 123 && (Nat.beq r 6 && Nat.beq i 3) then 4 else 0
def cutF (f n : Nat) : Bool := Nat.beq f 6 && (Nat.beq n 32 || Nat.beq n 200006 || Nat.beq n 200010) || Nat.beq f 32 && (Nat.beq n 12) || Nat.beq f 42 && (Nat.beq n 15 || Nat.beq n 200003) || Nat.beq f 54 && (Nat.beq n 31 || Nat.beq n 45 || Nat.beq n 64 || Nat.beq n 71 || Nat.beq n 100000 || Nat.beq n 200001) || Nat.beq f 94 && (Nat.beq n 33 || Nat.beq n 200007) || Nat.beq f 99 && (Nat.beq n 100000) || Nat.beq f 102 && (Nat.beq n 100000) || Nat.beq f 143 && (Nat.beq n 200001) || Nat.beq f 162 && (Nat.beq n 13 || Nat.beq n 98 || Nat.beq n 120 || Nat.beq n 148 || Nat.beq n 200007 || Nat.beq n 200011 || Nat.beq n 200021) || Nat.beq f 163 && (Nat.beq n 70 || Nat.beq n 200013)
def effF (f : Nat) : Bool := Nat.beq f 42 || Nat.beq f 45 || Nat.beq f 53 || Nat.beq f 58 || Nat.beq f 60 || Nat.beq f 72 || Nat.beq f 73 || Nat.beq f 74 || Nat.beq f 86 || Nat.beq f 87 || Nat.beq f 93 || Nat.beq f 95 || Nat.beq f 96 || Nat.beq f 99 || Nat.beq f 100 || Nat.beq f 102 || Nat.beq f 103 || Nat.beq f 119 || Nat.beq f 121 || Nat.beq f 122 || Nat.beq f 123 || Nat.beq f 143 || Nat.beq f 144 || Nat.beq f 162 || Nat.beq f 163
def tabF (m : Int) (b j : Nat) : Option Value := bif Nat.beq b 0 && Nat.beq j 0 then some (.int .i64 m) else none
def orcF (f : FuncId) (xs : List A0) (obs : List Ob) (rs : List A0) (obs2 : List Ob) : Prop := (∃ s c, f = 98 ∧ xs = [.val (.str s), .val (.int .u8 c)] ∧ obs = [] ∧ rs = [.val (.int .i64 (Lib.indexByte s.data.toList c.toNat.toUInt8))] ∧ obs2 = []) ∨ (∃ s c, f = 118 ∧ xs = [.val (.str s), .val (.str c)] ∧ obs = [] ∧ rs = [.val (.bool (Lib.contains s.data.toList c.data.toList))] ∧ obs2 = [] ∧ s.size < 4294967281) ∨ False
noncomputable def G (m_ : Int) : Env := { P := Try.prog, ti := assoc tis, fn := assoc [(6, Try.f6), (8, Try.f8), (13, Try.f13), (14, Try.f14), (17, Try.f17), (18, Try.f18), (32, Try.f32), (42, Try.f42), (45, Try.f45), (46, Try.f46), (53, Try.f53), (54, Try.f54), (58, Try.f58), (59, Try.f59), (60, Try.f60), (61, Try.f61), (72, Try.f72), (73, Try.f73), (74, Try.f74), (86, Try.f86), (87, Try.f87), (93, Try.f93), (94, Try.f94), (95, Try.f95), (96, Try.f96), (98, Try.f98), (99, Try.f99), (100, Try.f100), (101, Try.f101), (102, Try.f102), (103, Try.f103), (118, Try.f118), (119, Try.f119), (121, Try.f121), (122, Try.f122), (123, Try.f123), (143, Try.f143), (144, Try.f144), (145, Try.f145), (162, Try.f162), (163, Try.f163)], hint := hintF, eff := effF, cut := cutF, orc := orcF, tab := tabF m_ }
theorem orc98 {s : ByteArray} {b : Int} {r : Int} (h : strings_IndexByte.f s b = some r) : CE (G m_) 98 [.val (.str s), .val (.int .u8 b)] [] [.val (.int .i64 r)] [] := by
  cases h; exact CE.orc (.inl ⟨s, b, rfl, rfl, rfl, rfl, rfl⟩)
theorem orc118 {s b : ByteArray} {r : Bool} (h : strings_Contains.f s b = some r) : CE (G m_) 118 [.val (.str s), .val (.str b)] [] [.val (.bool r)] [] := by
  unfold strings_Contains.f at h; split at h
  · rename_i hc; cases h; exact CE.orc (.inr (.inl ⟨s, b, rfl, rfl, rfl, rfl, rfl, hc⟩))
  · cases h
theorem zz {p q : Prop} (h : q) (e : Hq q → p := by
  intro q_
  repeat ((conv => whnf); first
    | (refine And.intro ?_ ?_; (first | with_reducible exact zdraw | exact zside | exact szok_map sz26 _ | exact szok_map sz82 _))
    | (apply Or.inl; refine And.intro zq ?_)
    | (apply Or.inr; refine And.intro zq ?_)
    | with_reducible refine z_bits ?_
    | refine z_wrap' ?_
    | refine z_wrap8 ?_
    | refine Exists.intro _ (And.intro (List.length_map _) ?_)
    | (refine z_byte ?_ ?_ ?_; (exact zside); (exact zside); intro b_ hb_; (try rw [hb_]); clear hb_ b_)
    | (refine Exists.intro _ (And.intro (nth26 _ _ ?_ ?_) ?_); (exact zside); (exact zside))
    | (refine Exists.intro _ (And.intro (nth82 _ _ ?_ ?_) ?_); (exact zside); (exact zside))
    | (refine Exists.intro _ (And.intro (nthR _ _ (0 : Int) _ ?_ ?_) ?_); (exact zside); (exact zside))
    | (refine Exists.intro _ (And.intro (nthR _ _ false _ ?_ ?_) ?_); (exact zside); (exact zside))
    | (refine Exists.intro _ (And.intro (nthR _ _ ByteArray.empty _ ?_ ?_) ?_); (exact zside); (exact zside))
    | refine z_max ?_
    | refine z_min ?_
    | refine z_mod ?_
    | refine z_bytes ?_
    | refine z_wrapk ?_
    | refine z_shr ?_)
  (try conv => whnf)
  exact q_.out) : p := e ⟨h⟩

end Go.Proofs.Ytfdpehmefgfjgaa.TFnBrackets
