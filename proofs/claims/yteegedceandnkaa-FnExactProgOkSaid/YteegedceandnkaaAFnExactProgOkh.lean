/- The walks of the functions that FnExactProgOk reaches, through the abstract machine. -/
import Derived.Test.YteegedceandnkaaAm17
import Derived.Test.YteegedceandnkaaFFnExactProgOk
import Derived.Test.YteegedceandnkaaProg
set_option maxHeartbeats 4000000
set_option maxRecDepth 100000
set_option linter.unusedVariables false
set_option linter.unusedSimpArgs false
namespace Go.Proofs.Yteegedceandnkaa.TFnExactProgOk
open Go Go.RowKit Go.Proofs Go.Proofs.YteegedceandnkaaW.AM Go.Proofs.Yteegedceandnkaa.QFnExactProgOk Go.Proofs.YteegedceandnkaaW.PrintWords Go.Proofs.YteegedceandnkaaW.Pgs
def e41 (s : S41) : VV := .agg [.int .i64 s.f0, .int .i64 s.f1, .str s.f2]
theorem sz41 (s : S41) : (e41 s).cells.length = 3 := rfl
theorem nth41 (l : List S41) (i : Int) (h0 : 0 ≤ i) (h1 : i < (l.length : Int)) : (l.map e41)[i.toNat]? = some (.agg [.int .i64 (rd_T41 l i).f0, .int .i64 (rd_T41 l i).f1, .str (rd_T41 l i).f2]) := nthM l e41 z41 i h0 h1
def e31 (s : S31) : VV := .agg [.row ((s.f0).map VV.str), .row ((s.f1).map VV.str), .row ((s.f2).map e41), .row ((s.f3).map e41)]
theorem sz31 (s : S31) : (e31 s).cells.length = 4 := rfl
theorem nth31 (l : List S31) (i : Int) (h0 : 0 ≤ i) (h1 : i < (l.length : Int)) : (l.map e31)[i.toNat]? = some (.agg [.row (((rd_T31 l i).f0).map VV.str), .row (((rd_T31 l i).f1).map VV.str), .row (((rd_T31 l i).f2).map e41), .row (((rd_T31 l i).f3).map e41)]) := nthM l e31 z31 i h0 h1
def e43 (s : S43) : VV := .agg [.int .i64 s.f0, .int .i64 s.f1, .str s.f2]
theorem sz43 (s : S43) : (e43 s).cells.length = 3 := rfl
theorem nth43 (l : List S43) (i : Int) (h0 : 0 ≤ i) (h1 : i < (l.length : Int)) : (l.map e43)[i.toNat]? = some (.agg [.int .i64 (rd_T43 l i).f0, .int .i64 (rd_T43 l i).f1, .str (rd_T43 l i).f2]) := nthM l e43 z43 i h0 h1
def e35 (s : S35) : VV := .agg [.row ((s.f0).map VV.str), .row ((s.f1).map VV.str), .row ((s.f2).map e43), .row ((s.f3).map e43)]
theorem sz35 (s : S35) : (e35 s).cells.length = 4 := rfl
theorem nth35 (l : List S35) (i : Int) (h0 : 0 ≤ i) (h1 : i < (l.length : Int)) : (l.map e35)[i.toNat]? = some (.agg [.row (((rd_T35 l i).f0).map VV.str), .row (((rd_T35 l i).f1).map VV.str), .row (((rd_T35 l i).f2).map e43), .row (((rd_T35 l i).f3).map e43)]) := nthM l e35 z35 i h0 h1
mutual
def e59 : S59 → VV
  | ⟨f0, f1, f2, f3, f4⟩ => .agg [.int .i64 f0, .int .i64 f1, .str f2, .bool f3, .row (e59L f4)]
def e59L : List S59 → List VV
  | [] => []
  | x :: xs => e59 x :: e59L xs
end
theorem e59L_eq : ∀ l, e59L l = l.map e59
  | [] => by rw [e59L]; rfl
  | x :: xs => by rw [e59L, e59L_eq xs]; rfl
@[simp] theorem e59_eq (s : S59) : e59 s = .agg [.int .i64 s.f0, .int .i64 s.f1, .str s.f2, .bool s.f3, .row ((s.f4).map e59)] := by cases s; simp only [e59, e59L_eq]
theorem sz59 (s : S59) : (e59 s).cells.length = 5 := by rw [e59_eq]; rfl
theorem nth59 (l : List S59) (i : Int) (h0 : 0 ≤ i) (h1 : i < (l.length : Int)) : (l.map e59)[i.toNat]? = some (.agg [.int .i64 (rd_T59 l i).f0, .int .i64 (rd_T59 l i).f1, .str (rd_T59 l i).f2, .bool (rd_T59 l i).f3, .row (((rd_T59 l i).f4).map e59)]) := by rw [nthM l e59 z59 i h0 h1, e59_eq]; rfl
def tis : List (Nat × TI) := [(3, ⟨false, 1, 8, [.int .i64 (0)], none, [], some .i64, false, false⟩), (4, ⟨false, 1, 1, [.bool false], none, [], none, false, true⟩), (5, ⟨false, 1, 1, [.int .u8 (0)], none, [], some .u8, false, false⟩), (9, ⟨false, 1, 16, [.string ⟨#[]⟩], none, [], none, true, false⟩), (22, ⟨false, 1, 24, [.slice none 0 0], some 41, [], none, false, false⟩), (25, ⟨false, 1, 24, [.slice none 0 0], some 43, [], none, false, false⟩), (29, ⟨false, 1, 24, [.slice none 0 0], some 9, [], none, false, false⟩), (31, ⟨true, 4, 96, [.slice none 0 0, .slice none 0 0, .slice none 0 0, .slice none 0 0], none, [(0, 29, 1), (1, 29, 1), (2, 22, 1), (3, 22, 1)], none, false, false⟩), (35, ⟨true, 4, 96, [.slice none 0 0, .slice none 0 0, .slice none 0 0, .slice none 0 0], none, [(0, 29, 1), (1, 29, 1), (2, 25, 1), (3, 25, 1)], none, false, false⟩), (41, ⟨true, 3, 32, [.int .i64 (0), .int .i64 (0), .string ⟨#[]⟩], none, [(0, 3, 1), (1, 3, 1), (2, 9, 1)], none, false, false⟩), (43, ⟨true, 3, 32, [.int .i64 (0), .int .i64 (0), .string ⟨#[]⟩], none, [(0, 3, 1), (1, 3, 1), (2, 9, 1)], none, false, false⟩), (57, ⟨false, 1, 24, [.slice none 0 0], some 59, [], none, false, false⟩), (59, ⟨true, 5, 64, [.int .i64 (0), .int .i64 (0), .string ⟨#[]⟩, .bool false, .slice none 0 0], none, [(0, 3, 1), (1, 3, 1), (2, 9, 1), (3, 4, 1), (4, 57, 1)], none, false, false⟩), (71, ⟨true, 3, 32, [.string ⟨#[]⟩, .int .i64 (0), .bool false], none, [(0, 9, 1), (1, 3, 1), (2, 4, 1)], none, false, false⟩), (79, ⟨true, 2, 24, [.string ⟨#[]⟩, .bool false], none, [(0, 9, 1), (1, 4, 1)], none, false, false⟩), (85, ⟨false, 1, 24, [.slice none 0 0], some 4, [], none, false, false⟩), (86, ⟨false, 1, 24, [.slice none 0 0], some 5, [], none, false, false⟩)]
def hintF (f r i : Nat) : Nat := bif Nat.beq f 7 && (Nat.beq r 6 && Nat.beq i 1) then 1 else bif Nat.beq f 27 && (Nat.beq r 6 && Nat.beq i 1) then 1 else bif Nat.beq f 35 && (Nat.beq r 1 && Nat.beq i 1) then 1 else bif Nat.beq f 40 && (Nat.beq r 1 && Nat.beq i 1) then 1 else bif Nat.beq f 42 && (Nat.beq r 1 && Nat.beq i 0) then 4 else bif Nat.beq f 46 && (Nat.beq r 7 && Nat.beq i 0) then 1 else bif Nat.beq f 51 && (Nat.beq r 9 && Nat.beq i 0) then 1 else bif Nat.beq f 54 && (Nat.beq r 6 && Nat.beq i 0) then 1 else bif Nat.beq f 57 && (Nat.beq r 13 && Nat.beq i 2) then 4 else bif Nat.beq f 58 && (Nat.beq r 10 && Nat.beq i 0) then 1 else bif Nat.beq f 62 && (Nat.beq r 6 && Nat.beq i 3) then 4 else 0
def cutF (f n : Nat) : Bool := Nat.beq f 6 && (Nat.beq n 200002) || Nat.beq f 11 && (Nat.beq n 200004 || Nat.beq n 200009) || Nat.beq f 13 && (Nat.beq n 200001) || Nat.beq f 17 && (Nat.beq n 28 || Nat.beq n 46 || Nat.beq n 65 || Nat.beq n 91) || Nat.beq f 22 && (Nat.beq n 62 || Nat.beq n 75 || Nat.beq n 89 || Nat.beq n 106 || Nat.beq n 200002) || Nat.beq f 37 && (Nat.beq n 16) || Nat.beq f 50 && (Nat.beq n 4) || Nat.beq f 51 && (Nat.beq n 100000) || Nat.beq f 58 && (Nat.beq n 100000) || Nat.beq f 60 && (Nat.beq n 200001) || Nat.beq f 63 && (Nat.beq n 13 || Nat.beq n 98 || Nat.beq n 120 || Nat.beq n 148 || Nat.beq n 200007 || Nat.beq n 200011 || Nat.beq n 200021) || Nat.beq f 66 && (Nat.beq n 70 || Nat.beq n 200013)
def effF (f : Nat) : Bool := Nat.beq f 20 || Nat.beq f 21 || Nat.beq f 29 || Nat.beq f 30 || Nat.beq f 36 || Nat.beq f 44 || Nat.beq f 46 || Nat.beq f 51 || Nat.beq f 52 || Nat.beq f 54 || Nat.beq f 57 || Nat.beq f 58 || Nat.beq f 59 || Nat.beq f 60 || Nat.beq f 61 || Nat.beq f 62 || Nat.beq f 63 || Nat.beq f 64 || Nat.beq f 66
def ownF (f : Nat) : Bool := false
def orcF (f : FuncId) (xs : List A0) (obs : List Ob) (rs : List RV) (obs2 : List Ob) : Prop := (∃ s c, f = 67 ∧ xs = [.val (.str s), .val (.int .u8 c)] ∧ obs = [] ∧ rs = [.val (.int .i64 (Lib.indexByte s.data.toList c.toNat.toUInt8))] ∧ obs2 = []) ∨ False
noncomputable def G : Env := { P := Try.prog, ti := assoc tis, fn := assoc [(4, Try.f4), (5, Try.f5), (6, Try.f6), (7, Try.f7), (8, Try.f8), (9, Try.f9), (10, Try.f10), (11, Try.f11), (12, Try.f12), (13, Try.f13), (14, Try.f14), (15, Try.f15), (16, Try.f16), (17, Try.f17), (18, Try.f18), (19, Try.f19), (20, Try.f20), (21, Try.f21), (22, Try.f22), (23, Try.f23), (24, Try.f24), (25, Try.f25), (26, Try.f26), (27, Try.f27), (28, Try.f28), (29, Try.f29), (30, Try.f30), (31, Try.f31), (32, Try.f32), (33, Try.f33), (34, Try.f34), (35, Try.f35), (36, Try.f36), (37, Try.f37), (38, Try.f38), (39, Try.f39), (40, Try.f40), (41, Try.f41), (42, Try.f42), (43, Try.f43), (44, Try.f44), (45, Try.f45), (46, Try.f46), (47, Try.f47), (48, Try.f48), (49, Try.f49), (50, Try.f50), (51, Try.f51), (52, Try.f52), (53, Try.f53), (54, Try.f54), (55, Try.f55), (56, Try.f56), (57, Try.f57), (58, Try.f58), (59, Try.f59), (60, Try.f60), (61, Try.f61), (62, Try.f62), (63, Try.f63), (64, Try.f64), (65, Try.f65), (66, Try.f66), (67, Try.f67)], hint := hintF, eff := effF, ownr := ownF, cut := cutF, orc := orcF }
theorem orc67 {s : ByteArray} {c r : Int} (h : strings_IndexByte.f s c = some r) : CE G 67 [.val (.str s), .val (.int .u8 c)] [] [.val (.int .i64 r)] [] := by
  cases h; exact CE.orc (.inl ⟨s, c, rfl, rfl, rfl, rfl, rfl⟩)
theorem zz {p q : Prop} (h : q) (e : Hq q → p := by
  intro q_
  repeat ((conv => whnf); first
    | (refine And.intro ?_ ?_; (first | with_reducible exact zdraw | exact zside | exact szok_map sz41 _ | exact szok_map sz31 _ | exact szok_map sz43 _ | exact szok_map sz35 _ | exact szok_map sz59 _))
    | (apply Or.inl; refine And.intro zq ?_)
    | (apply Or.inr; refine And.intro zq ?_)
    | refine z_wrap' ?_
    | refine z_wrap8 ?_
    | refine Exists.intro _ (And.intro (List.length_map _) ?_)
    | (refine z_byte ?_ ?_ ?_; (exact zside); (exact zside); intro b_ hb_; (try rw [hb_]); clear hb_ b_)
    | (refine Exists.intro _ (And.intro (nth41 _ _ ?_ ?_) ?_); (exact zside); (exact zside))
    | (refine Exists.intro _ (And.intro (nth31 _ _ ?_ ?_) ?_); (exact zside); (exact zside))
    | (refine Exists.intro _ (And.intro (nth43 _ _ ?_ ?_) ?_); (exact zside); (exact zside))
    | (refine Exists.intro _ (And.intro (nth35 _ _ ?_ ?_) ?_); (exact zside); (exact zside))
    | (refine Exists.intro _ (And.intro (nth59 _ _ ?_ ?_) ?_); (exact zside); (exact zside))
    | (refine Exists.intro _ (And.intro (nthR _ _ false _ ?_ ?_) ?_); (exact zside); (exact zside))
    | (refine Exists.intro _ (And.intro (nthR _ _ (0 : Int) _ ?_ ?_) ?_); (exact zside); (exact zside))
    | (refine Exists.intro _ (And.intro (nthR _ _ ByteArray.empty _ ?_ ?_) ?_); (exact zside); (exact zside))
    | refine z_max ?_
    | refine z_min ?_
    | refine z_mod ?_
    | refine z_bytes ?_
    | refine z_wrapk ?_)
  (try conv => whnf)
  exact q_.out) : p := e ⟨h⟩

end Go.Proofs.Yteegedceandnkaa.TFnExactProgOk
