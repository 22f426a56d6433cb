/- The walks of the functions that FnExactMatchAt reaches, through the abstract machine. -/
import Derived.Test.YtdajhceookjdmaaAm18
import Derived.Test.YtdajhceookjdmaaFFnExactMatchAt
import Derived.Test.YtdajhceookjdmaaProg
set_option maxHeartbeats 4000000
set_option maxRecDepth 100000
set_option linter.unusedVariables false
set_option linter.unusedSimpArgs false
namespace Go.Proofs.Ytdajhceookjdmaa.TFnExactMatchAt
open Go Go.RowKit Go.Proofs Go.Proofs.YtdajhceookjdmaaW.AM Go.Proofs.Ytdajhceookjdmaa.QFnExactMatchAt Go.Proofs.YtdajhceookjdmaaW.PrintWords Go.Proofs.YtdajhceookjdmaaW.Pgs
def e59 (s : S59) : VV := .agg [.int .i64 s.f0, .int .i64 s.f1, .str s.f2, .bool s.f3, .int .i64 s.f4, .int .i64 s.f5]
theorem sz59 (s : S59) : (e59 s).cells.length = 6 := rfl
theorem nth59 (l : List S59) (i : Int) (h0 : 0 ≤ i) (h1 : i < (l.length : Int)) : (l.map e59)[i.toNat]? = some (.agg [.int .i64 (rd_T59 l i).f0, .int .i64 (rd_T59 l i).f1, .str (rd_T59 l i).f2, .bool (rd_T59 l i).f3, .int .i64 (rd_T59 l i).f4, .int .i64 (rd_T59 l i).f5]) := nthM l e59 z59 i h0 h1
def e62 (s : S62) : VV := .agg [.int .i64 s.f0, .int .i64 s.f1, .str s.f2, .bool s.f3, .int .i64 s.f4, .int .i64 s.f5]
theorem sz62 (s : S62) : (e62 s).cells.length = 6 := rfl
theorem nth62 (l : List S62) (i : Int) (h0 : 0 ≤ i) (h1 : i < (l.length : Int)) : (l.map e62)[i.toNat]? = some (.agg [.int .i64 (rd_T62 l i).f0, .int .i64 (rd_T62 l i).f1, .str (rd_T62 l i).f2, .bool (rd_T62 l i).f3, .int .i64 (rd_T62 l i).f4, .int .i64 (rd_T62 l i).f5]) := nthM l e62 z62 i h0 h1
def tis : List (Nat × TI) := [(3, ⟨false, 1, 8, [.int .i64 (0)], none, [], some .i64, false, false⟩), (4, ⟨false, 1, 1, [.bool false], none, [], none, false, true⟩), (5, ⟨false, 1, 1, [.int .u8 (0)], none, [], some .u8, false, false⟩), (9, ⟨false, 1, 16, [.string ⟨#[]⟩], none, [], none, true, false⟩), (22, ⟨false, 1, 24, [.slice none 0 0], some 59, [], none, false, false⟩), (25, ⟨false, 1, 24, [.slice none 0 0], some 62, [], none, false, false⟩), (50, ⟨false, 1, 24, [.slice none 0 0], some 3, [], none, false, false⟩), (59, ⟨true, 6, 56, [.int .i64 (0), .int .i64 (0), .string ⟨#[]⟩, .bool false, .int .i64 (0), .int .i64 (0)], none, [(0, 3, 1), (1, 3, 1), (2, 9, 1), (3, 4, 1), (4, 3, 1), (5, 3, 1)], none, false, false⟩), (62, ⟨true, 6, 56, [.int .i64 (0), .int .i64 (0), .string ⟨#[]⟩, .bool false, .int .i64 (0), .int .i64 (0)], none, [(0, 3, 1), (1, 3, 1), (2, 9, 1), (3, 4, 1), (4, 3, 1), (5, 3, 1)], none, false, false⟩), (84, ⟨false, 1, 24, [.slice none 0 0], some 4, [], none, false, false⟩)]
def hintF (f r i : Nat) : Nat := bif Nat.beq f 8 && (Nat.beq r 3 && Nat.beq i 1) then 4 else bif Nat.beq f 8 && (Nat.beq r 17 && Nat.beq i 1) then 1 else bif Nat.beq f 9 && (Nat.beq r 6 && Nat.beq i 1) then 1 else bif Nat.beq f 10 && (Nat.beq r 4 && Nat.beq i 1) then 1 else bif Nat.beq f 10 && (Nat.beq r 5 && Nat.beq i 1) then 1 else bif Nat.beq f 10 && (Nat.beq r 17 && Nat.beq i 1) then 1 else bif Nat.beq f 28 && (Nat.beq r 27 && Nat.beq i 1) then 1 else bif Nat.beq f 35 && (Nat.beq r 6 && Nat.beq i 0) then 1 else bif Nat.beq f 65 && (Nat.beq r 3 && Nat.beq i 4) then 5 else bif Nat.beq f 66 && (Nat.beq r 7 && Nat.beq i 1) then 1 else 0
def cutF (f n : Nat) : Bool := Nat.beq f 8 && (Nat.beq n 21 || Nat.beq n 46 || Nat.beq n 200001) || Nat.beq f 10 && (Nat.beq n 21 || Nat.beq n 36 || Nat.beq n 46 || Nat.beq n 200001 || Nat.beq n 200008) || Nat.beq f 33 && (Nat.beq n 200005) || Nat.beq f 57 && (Nat.beq n 200000) || Nat.beq f 63 && (Nat.beq n 35 || Nat.beq n 79 || Nat.beq n 200001) || Nat.beq f 64 && (Nat.beq n 200001 || Nat.beq n 200002 || Nat.beq n 200003 || Nat.beq n 200004) || Nat.beq f 65 && (Nat.beq n 42 || Nat.beq n 200004)
def effF (f : Nat) : Bool := Nat.beq f 57 || Nat.beq f 58 || Nat.beq f 65
def tabF (b j : Nat) : Option Value := none
def orcF (f : FuncId) (xs : List A0) (obs : List Ob) (rs : List A0) (obs2 : List Ob) : Prop := (∃ e g zs, f = 58 ∧ xs = [.ref 0 g] ∧ obs = [.own e 1 (List.map (VV.int .i64) zs) g false] ∧ rs = [] ∧ obs2 = [.own e 1 (List.map (VV.int .i64) (sortI zs)) g false] ∧ zs.length < 4611686018427387904) ∨ (∃ s c, f = 69 ∧ xs = [.val (.str s), .val (.int .u8 c)] ∧ obs = [] ∧ rs = [.val (.int .i64 (Lib.indexByte s.data.toList c.toNat.toUInt8))] ∧ obs2 = []) ∨ (∃ s c, f = 103 ∧ xs = [.val (.str s), .val (.str ⟨#[c]⟩)] ∧ obs = [] ∧ rs = [.val (.bool (decide (0 ≤ Lib.indexByte s.data.toList c)))] ∧ obs2 = []) ∨ False
noncomputable def G : Env := { P := Try.prog, ti := assoc tis, fn := assoc [(3, Try.f3), (7, Try.f7), (8, Try.f8), (9, Try.f9), (10, Try.f10), (11, Try.f11), (28, Try.f28), (32, Try.f32), (33, Try.f33), (35, Try.f35), (36, Try.f36), (37, Try.f37), (38, Try.f38), (39, Try.f39), (40, Try.f40), (41, Try.f41), (42, Try.f42), (43, Try.f43), (57, Try.f57), (58, Try.f58), (63, Try.f63), (64, Try.f64), (65, Try.f65), (66, Try.f66), (67, Try.f67), (68, Try.f68), (69, Try.f69)], hint := hintF, eff := effF, cut := cutF, orc := orcF, tab := tabF }
theorem orc58 {e g : Nat} {zs r : List Int} (h : slices_Sort_int.f zs = some r) : CE G 58 [.ref 0 g] [.own e 1 (zs.map (VV.int .i64)) g false] [] [.own e 1 (r.map (VV.int .i64)) g false] := by
  unfold slices_Sort_int.f at h
  split at h
  · rename_i hc_
    cases h; exact CE.orc (.inl ⟨e, g, zs, rfl, rfl, rfl, rfl, rfl, hc_⟩)
  · cases h
theorem orc69 {s : ByteArray} {b : Int} {r : Int} (h : strings_IndexByte.f s b = some r) : CE G 69 [.val (.str s), .val (.int .u8 b)] [] [.val (.int .i64 r)] [] := by
  cases h; exact CE.orc (.inr (.inl ⟨s, b, rfl, rfl, rfl, rfl, rfl⟩))
theorem zz {p q : Prop} (h : q) (e : Hq q → p := by
  intro q_
  repeat ((conv => whnf); first
    | (refine And.intro ?_ ?_; (first | with_reducible exact zdraw | exact zside | exact szok_map sz59 _ | exact szok_map sz62 _))
    | (apply Or.inl; refine And.intro zq ?_)
    | (apply Or.inr; refine And.intro zq ?_)
    | refine z_wrap' ?_
    | refine z_wrap8 ?_
    | refine Exists.intro _ (And.intro (List.length_map _) ?_)
    | (refine z_byte ?_ ?_ ?_; (exact zside); (exact zside); intro b_ hb_; (try rw [hb_]); clear hb_ b_)
    | (refine Exists.intro _ (And.intro (nth59 _ _ ?_ ?_) ?_); (exact zside); (exact zside))
    | (refine Exists.intro _ (And.intro (nth62 _ _ ?_ ?_) ?_); (exact zside); (exact zside))
    | (refine Exists.intro _ (And.intro (nthR _ _ (0 : Int) _ ?_ ?_) ?_); (exact zside); (exact zside))
    | (refine Exists.intro _ (And.intro (nthR _ _ false _ ?_ ?_) ?_); (exact zside); (exact zside))
    | refine z_max ?_
    | refine z_min ?_
    | refine z_mod ?_
    | refine z_bytes ?_
    | refine z_wrapk ?_
    | refine z_bits ?_
    | refine z_shr ?_)
  (try conv => whnf)
  exact q_.out) : p := e ⟨h⟩

end Go.Proofs.Ytdajhceookjdmaa.TFnExactMatchAt
