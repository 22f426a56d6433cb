/- The walks of the functions that FnExactClosure reaches, through the abstract machine. -/
import Derived.Test.YtfdpehmefgfjgaaAm18
import Derived.Test.YtfdpehmefgfjgaaFFnExactClosure
import Derived.Test.YtfdpehmefgfjgaaProg
set_option maxHeartbeats 4000000
set_option maxRecDepth 100000
set_option linter.unusedVariables false
set_option linter.unusedSimpArgs false
namespace Go.Proofs.Ytfdpehmefgfjgaa.TFnExactClosure
open Go Go.RowKit Go.Proofs Go.Proofs.YtfdpehmefgfjgaaW.AM Go.Proofs.Ytfdpehmefgfjgaa.QFnExactClosure Go.Proofs.YtfdpehmefgfjgaaW.PrintWords Go.Proofs.YtfdpehmefgfjgaaW.Pgs
def e82 (s : S82) : VV := .agg [.int .i64 s.f0, .int .i64 s.f1, .str s.f2, .bool s.f3, .int .i64 s.f4, .int .i64 s.f5]
theorem sz82 (s : S82) : (e82 s).cells.length = 6 := rfl
theorem nth82 (l : List S82) (i : Int) (h0 : 0 ≤ i) (h1 : i < (l.length : Int)) : (l.map e82)[i.toNat]? = some (.agg [.int .i64 (rd_T82 l i).f0, .int .i64 (rd_T82 l i).f1, .str (rd_T82 l i).f2, .bool (rd_T82 l i).f3, .int .i64 (rd_T82 l i).f4, .int .i64 (rd_T82 l i).f5]) := nthM l e82 z82 i h0 h1
def e99 (s : S99) : VV := .agg [.int .i64 s.f0, .int .i64 s.f1, .str s.f2, .bool s.f3, .int .i64 s.f4, .int .i64 s.f5]
theorem sz99 (s : S99) : (e99 s).cells.length = 6 := rfl
theorem nth99 (l : List S99) (i : Int) (h0 : 0 ≤ i) (h1 : i < (l.length : Int)) : (l.map e99)[i.toNat]? = some (.agg [.int .i64 (rd_T99 l i).f0, .int .i64 (rd_T99 l i).f1, .str (rd_T99 l i).f2, .bool (rd_T99 l i).f3, .int .i64 (rd_T99 l i).f4, .int .i64 (rd_T99 l i).f5]) := nthM l e99 z99 i h0 h1
def tis : List (Nat × TI) := [(3, ⟨false, 1, 8, [.int .i64 (0)], none, [], some .i64, false, false⟩), (4, ⟨false, 1, 1, [.bool false], none, [], none, false, true⟩), (5, ⟨false, 1, 1, [.int .u8 (0)], none, [], some .u8, false, false⟩), (9, ⟨false, 1, 16, [.string ⟨#[]⟩], none, [], none, true, false⟩), (22, ⟨false, 1, 24, [.slice none 0 0], some 5, [], none, false, false⟩), (29, ⟨false, 1, 24, [.slice none 0 0], some 3, [], none, false, false⟩), (32, ⟨false, 1, 24, [.slice none 0 0], some 82, [], none, false, false⟩), (42, ⟨false, 1, 24, [.slice none 0 0], some 99, [], none, false, false⟩), (70, ⟨false, 1, 24, [.slice none 0 0], some 4, [], none, false, false⟩), (82, ⟨true, 6, 56, [.int .i64 (0), .int .i64 (0), .string ⟨#[]⟩, .bool false, .int .i64 (0), .int .i64 (0)], none, [(0, 3, 1), (1, 3, 1), (2, 9, 1), (3, 4, 1), (4, 3, 1), (5, 3, 1)], none, false, false⟩), (99, ⟨true, 6, 56, [.int .i64 (0), .int .i64 (0), .string ⟨#[]⟩, .bool false, .int .i64 (0), .int .i64 (0)], none, [(0, 3, 1), (1, 3, 1), (2, 9, 1), (3, 4, 1), (4, 3, 1), (5, 3, 1)], none, false, false⟩)]
def hintF (f r i : Nat) : Nat := bif Nat.beq f 5 && (Nat.beq r 7 && Nat.beq i 1) then 4 else bif Nat.beq f 5 && (Nat.beq r 7 && Nat.beq i 3) then 4 else bif Nat.beq f 5 && (Nat.beq r 13 && Nat.beq i 2) then 4 else bif Nat.beq f 5 && (Nat.beq r 15 && Nat.beq i 2) then 4 else bif Nat.beq f 5 && (Nat.beq r 25 && Nat.beq i 0) then 1 else bif Nat.beq f 5 && (Nat.beq r 30 && Nat.beq i 1) then 4 else bif Nat.beq f 5 && (Nat.beq r 30 && Nat.beq i 3) then 4 else bif Nat.beq f 5 && (Nat.beq r 31 && Nat.beq i 0) then 1 else bif Nat.beq f 5 && (Nat.beq r 34 && Nat.beq i 0) then 1 else bif Nat.beq f 23 && (Nat.beq r 6 && Nat.beq i 0) then 1 else bif Nat.beq f 51 && (Nat.beq r 7 && Nat.beq i 1) then 1 else bif Nat.beq f 66 && (Nat.beq r 3 && Nat.beq i 4) then 5 else 0
def cutF (f n : Nat) : Bool := Nat.beq f 5 && (Nat.beq n 69 || Nat.beq n 200020) || Nat.beq f 66 && (Nat.beq n 42 || Nat.beq n 200004) || Nat.beq f 68 && (Nat.beq n 200000)
def effF (f : Nat) : Bool := Nat.beq f 24 || Nat.beq f 25 || Nat.beq f 26 || Nat.beq f 27 || Nat.beq f 28 || Nat.beq f 29 || Nat.beq f 30 || Nat.beq f 66 || Nat.beq f 68 || Nat.beq f 69
def tabF (b j : Nat) : Option Value := none
def orcF (f : FuncId) (xs : List A0) (obs : List Ob) (rs : List A0) (obs2 : List Ob) : Prop := (∃ e g zs, f = 69 ∧ xs = [.ref 0 g] ∧ obs = [.own e 1 (List.map (VV.int .i64) zs) g false] ∧ rs = [] ∧ obs2 = [.own e 1 (List.map (VV.int .i64) (sortI zs)) g false] ∧ zs.length < 4611686018427387904) ∨ (∃ s c, f = 98 ∧ xs = [.val (.str s), .val (.int .u8 c)] ∧ obs = [] ∧ rs = [.val (.int .i64 (Lib.indexByte s.data.toList c.toNat.toUInt8))] ∧ obs2 = []) ∨ (∃ s c, f = 118 ∧ xs = [.val (.str s), .val (.str ⟨#[c]⟩)] ∧ obs = [] ∧ rs = [.val (.bool (decide (0 ≤ Lib.indexByte s.data.toList c)))] ∧ obs2 = []) ∨ False
noncomputable def G : Env := { P := Try.prog, ti := assoc tis, fn := assoc [(5, Try.f5), (22, Try.f22), (23, Try.f23), (24, Try.f24), (25, Try.f25), (26, Try.f26), (27, Try.f27), (28, Try.f28), (29, Try.f29), (30, Try.f30), (31, Try.f31), (46, Try.f46), (51, Try.f51), (65, Try.f65), (66, Try.f66), (67, Try.f67), (68, Try.f68), (69, Try.f69), (70, Try.f70), (71, Try.f71)], hint := hintF, eff := effF, cut := cutF, orc := orcF, tab := tabF }
theorem orc69 {e g : Nat} {zs r : List Int} (h : slices_Sort_int.f zs = some r) : CE G 69 [.ref 0 g] [.own e 1 (zs.map (VV.int .i64)) g false] [] [.own e 1 (r.map (VV.int .i64)) g false] := by
  unfold slices_Sort_int.f at h
  split at h
  · rename_i hc_
    cases h; exact CE.orc (.inl ⟨e, g, zs, rfl, rfl, rfl, rfl, rfl, hc_⟩)
  · cases h
theorem zz {p q : Prop} (h : q) (e : Hq q → p := by
  intro q_
  repeat ((conv => whnf); first
    | (refine And.intro ?_ ?_; (first | with_reducible exact zdraw | exact zside | exact szok_map sz82 _ | exact szok_map sz99 _))
    | (apply Or.inl; refine And.intro zq ?_)
    | (apply Or.inr; refine And.intro zq ?_)
    | refine z_wrap' ?_
    | refine z_wrap8 ?_
    | refine Exists.intro _ (And.intro (List.length_map _) ?_)
    | (refine z_byte ?_ ?_ ?_; (exact zside); (exact zside); intro b_ hb_; (try rw [hb_]); clear hb_ b_)
    | (refine Exists.intro _ (And.intro (nth82 _ _ ?_ ?_) ?_); (exact zside); (exact zside))
    | (refine Exists.intro _ (And.intro (nth99 _ _ ?_ ?_) ?_); (exact zside); (exact zside))
    | (refine Exists.intro _ (And.intro (nthR _ _ (0 : Int) _ ?_ ?_) ?_); (exact zside); (exact zside))
    | (refine Exists.intro _ (And.intro (nthR _ _ false _ ?_ ?_) ?_); (exact zside); (exact zside))
    | refine z_max ?_
    | refine z_min ?_
    | refine z_mod ?_
    | refine z_bytes ?_
    | refine z_wrapk ?_
    | refine z_bits ?_
    | refine z_shr ?_)
  (try conv => whnf)
  exact q_.out) : p := e ⟨h⟩

end Go.Proofs.Ytfdpehmefgfjgaa.TFnExactClosure
