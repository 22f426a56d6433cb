/- The walks of the functions that FnExactNames reaches, through the abstract machine. -/
import Derived.Test.YtccldchklemogaaAm18
import Derived.Test.YtccldchklemogaaFFnExactNames
import Derived.Test.YtccldchklemogaaProg
set_option maxHeartbeats 4000000
set_option maxRecDepth 100000
set_option linter.unusedVariables false
set_option linter.unusedSimpArgs false
namespace Go.Proofs.Ytccldchklemogaa.TFnExactNames
open Go Go.RowKit Go.Proofs Go.Proofs.YtccldchklemogaaW.AM Go.Proofs.Ytccldchklemogaa.QFnExactNames Go.Proofs.YtccldchklemogaaW.PrintWords Go.Proofs.YtccldchklemogaaW.Pgs
mutual
def e56 : S56 → VV
  | ⟨f0, f1, f2, f3⟩ => .agg [.int .i64 f0, .int .i64 f1, .str f2, .row (e56L f3)]
def e56L : List S56 → List VV
  | [] => []
  | x :: xs => e56 x :: e56L xs
end
theorem e56L_eq : ∀ l, e56L l = l.map e56
  | [] => by rw [e56L]; rfl
  | x :: xs => by rw [e56L, e56L_eq xs]; rfl
@[simp] theorem e56_eq (s : S56) : e56 s = .agg [.int .i64 s.f0, .int .i64 s.f1, .str s.f2, .row ((s.f3).map e56)] := by cases s; simp only [e56, e56L_eq]
theorem sz56 (s : S56) : (e56 s).cells.length = 4 := by rw [e56_eq]; rfl
theorem nth56 (l : List S56) (i : Int) (h0 : 0 ≤ i) (h1 : i < (l.length : Int)) : (l.map e56)[i.toNat]? = some (.agg [.int .i64 (rd_T56 l i).f0, .int .i64 (rd_T56 l i).f1, .str (rd_T56 l i).f2, .row (((rd_T56 l i).f3).map e56)]) := by rw [nthM l e56 z56 i h0 h1, e56_eq]; rfl
def e58 (s : S58) : VV := .agg [.int .i64 s.f0, .int .i64 s.f1, .int .i64 s.f2, .str s.f3, .row ((s.f4).map e56), .int .i64 s.f5, .int .i64 s.f6, .str s.f7, .row ((s.f8).map e56)]
theorem sz58 (s : S58) : (e58 s).cells.length = 9 := rfl
theorem nth58 (l : List S58) (i : Int) (h0 : 0 ≤ i) (h1 : i < (l.length : Int)) : (l.map e58)[i.toNat]? = some (.agg [.int .i64 (rd_T58 l i).f0, .int .i64 (rd_T58 l i).f1, .int .i64 (rd_T58 l i).f2, .str (rd_T58 l i).f3, .row (((rd_T58 l i).f4).map e56), .int .i64 (rd_T58 l i).f5, .int .i64 (rd_T58 l i).f6, .str (rd_T58 l i).f7, .row (((rd_T58 l i).f8).map e56)]) := nthM l e58 z58 i h0 h1
mutual
def e62 : S62 → VV
  | ⟨f0, f1, f2, f3⟩ => .agg [.int .i64 f0, .int .i64 f1, .str f2, .row (e62L f3)]
def e62L : List S62 → List VV
  | [] => []
  | x :: xs => e62 x :: e62L xs
end
theorem e62L_eq : ∀ l, e62L l = l.map e62
  | [] => by rw [e62L]; rfl
  | x :: xs => by rw [e62L, e62L_eq xs]; rfl
@[simp] theorem e62_eq (s : S62) : e62 s = .agg [.int .i64 s.f0, .int .i64 s.f1, .str s.f2, .row ((s.f3).map e62)] := by cases s; simp only [e62, e62L_eq]
theorem sz62 (s : S62) : (e62 s).cells.length = 4 := by rw [e62_eq]; rfl
theorem nth62 (l : List S62) (i : Int) (h0 : 0 ≤ i) (h1 : i < (l.length : Int)) : (l.map e62)[i.toNat]? = some (.agg [.int .i64 (rd_T62 l i).f0, .int .i64 (rd_T62 l i).f1, .str (rd_T62 l i).f2, .row (((rd_T62 l i).f3).map e62)]) := by rw [nthM l e62 z62 i h0 h1, e62_eq]; rfl
def e64 (s : S64) : VV := .agg [.int .i64 s.f0, .int .i64 s.f1, .int .i64 s.f2, .str s.f3, .row ((s.f4).map e62), .int .i64 s.f5, .int .i64 s.f6, .str s.f7, .row ((s.f8).map e62)]
theorem sz64 (s : S64) : (e64 s).cells.length = 9 := rfl
theorem nth64 (l : List S64) (i : Int) (h0 : 0 ≤ i) (h1 : i < (l.length : Int)) : (l.map e64)[i.toNat]? = some (.agg [.int .i64 (rd_T64 l i).f0, .int .i64 (rd_T64 l i).f1, .int .i64 (rd_T64 l i).f2, .str (rd_T64 l i).f3, .row (((rd_T64 l i).f4).map e62), .int .i64 (rd_T64 l i).f5, .int .i64 (rd_T64 l i).f6, .str (rd_T64 l i).f7, .row (((rd_T64 l i).f8).map e62)]) := nthM l e64 z64 i h0 h1
def tis : List (Nat × TI) := [(3, ⟨false, 1, 8, [.int .i64 (0)], none, [], some .i64, false, false⟩), (4, ⟨false, 1, 1, [.bool false], none, [], none, false, true⟩), (5, ⟨false, 1, 1, [.int .u8 (0)], none, [], some .u8, false, false⟩), (9, ⟨false, 1, 16, [.string ⟨#[]⟩], none, [], none, true, false⟩), (30, ⟨false, 1, 24, [.slice none 0 0], some 58, [], none, false, false⟩), (32, ⟨false, 1, 24, [.slice none 0 0], some 9, [], none, false, false⟩), (35, ⟨false, 1, 24, [.slice none 0 0], some 64, [], none, false, false⟩), (54, ⟨false, 1, 24, [.slice none 0 0], some 56, [], none, false, false⟩), (56, ⟨true, 4, 56, [.int .i64 (0), .int .i64 (0), .string ⟨#[]⟩, .slice none 0 0], none, [(0, 3, 1), (1, 3, 1), (2, 9, 1), (3, 54, 1)], none, false, false⟩), (58, ⟨true, 9, 120, [.int .i64 (0), .int .i64 (0), .int .i64 (0), .string ⟨#[]⟩, .slice none 0 0, .int .i64 (0), .int .i64 (0), .string ⟨#[]⟩, .slice none 0 0], none, [(0, 3, 1), (1, 56, 4), (5, 56, 4)], none, false, false⟩), (60, ⟨false, 1, 24, [.slice none 0 0], some 62, [], none, false, false⟩), (62, ⟨true, 4, 56, [.int .i64 (0), .int .i64 (0), .string ⟨#[]⟩, .slice none 0 0], none, [(0, 3, 1), (1, 3, 1), (2, 9, 1), (3, 60, 1)], none, false, false⟩), (64, ⟨true, 9, 120, [.int .i64 (0), .int .i64 (0), .int .i64 (0), .string ⟨#[]⟩, .slice none 0 0, .int .i64 (0), .int .i64 (0), .string ⟨#[]⟩, .slice none 0 0], none, [(0, 3, 1), (1, 62, 4), (5, 62, 4)], none, false, false⟩), (67, ⟨false, 1, 8, [.nilFunc], none, [], none, false, false⟩), (81, ⟨false, 1, 24, [.slice none 0 0], some 5, [], none, false, false⟩)]
def hintF (f r i : Nat) : Nat := bif Nat.beq f 4 && (Nat.beq r 5 && Nat.beq i 1) then 4 else bif Nat.beq f 4 && (Nat.beq r 7 && Nat.beq i 1) then 14 else bif Nat.beq f 4 && (Nat.beq r 10 && Nat.beq i 3) then 14 else bif Nat.beq f 4 && (Nat.beq r 20 && Nat.beq i 0) then 1 else bif Nat.beq f 4 && (Nat.beq r 23 && Nat.beq i 0) then 1 else bif Nat.beq f 4 && (Nat.beq r 28 && Nat.beq i 2) then 14 else bif Nat.beq f 4 && (Nat.beq r 29 && Nat.beq i 0) then 1 else bif Nat.beq f 4 && (Nat.beq r 29 && Nat.beq i 5) then 1 else bif Nat.beq f 4 && (Nat.beq r 32 && Nat.beq i 0) then 1 else bif Nat.beq f 4 && (Nat.beq r 35 && Nat.beq i 0) then 1 else bif Nat.beq f 11 && (Nat.beq r 1 && Nat.beq i 2) then 1 else bif Nat.beq f 11 && (Nat.beq r 1 && Nat.beq i 3) then 1 else bif Nat.beq f 11 && (Nat.beq r 5 && Nat.beq i 5) then 1 else bif Nat.beq f 11 && (Nat.beq r 5 && Nat.beq i 6) then 1 else bif Nat.beq f 12 && (Nat.beq r 1 && Nat.beq i 2) then 12 else bif Nat.beq f 12 && (Nat.beq r 5 && Nat.beq i 7) then 12 else bif Nat.beq f 12 && (Nat.beq r 5 && Nat.beq i 8) then 12 else bif Nat.beq f 13 && (Nat.beq r 3 && Nat.beq i 1) then 8 else bif Nat.beq f 13 && (Nat.beq r 3 && Nat.beq i 2) then 7 else bif Nat.beq f 16 && (Nat.beq r 2 && Nat.beq i 2) then 12 else bif Nat.beq f 16 && (Nat.beq r 4 && Nat.beq i 3) then 12 else bif Nat.beq f 16 && (Nat.beq r 4 && Nat.beq i 5) then 12 else bif Nat.beq f 16 && (Nat.beq r 6 && Nat.beq i 3) then 12 else bif Nat.beq f 16 && (Nat.beq r 6 && Nat.beq i 6) then 12 else bif Nat.beq f 16 && (Nat.beq r 8 && Nat.beq i 3) then 12 else bif Nat.beq f 16 && (Nat.beq r 8 && Nat.beq i 6) then 12 else bif Nat.beq f 16 && (Nat.beq r 10 && Nat.beq i 4) then 12 else bif Nat.beq f 16 && (Nat.beq r 10 && Nat.beq i 7) then 12 else bif Nat.beq f 16 && (Nat.beq r 12 && Nat.beq i 2) then 12 else bif Nat.beq f 16 && (Nat.beq r 12 && Nat.beq i 5) then 13 else bif Nat.beq f 16 && (Nat.beq r 13 && Nat.beq i 3) then 12 else bif Nat.beq f 16 && (Nat.beq r 13 && Nat.beq i 6) then 12 else bif Nat.beq f 16 && (Nat.beq r 15 && Nat.beq i 3) then 12 else bif Nat.beq f 16 && (Nat.beq r 15 && Nat.beq i 6) then 12 else bif Nat.beq f 16 && (Nat.beq r 17 && Nat.beq i 4) then 12 else bif Nat.beq f 16 && (Nat.beq r 17 && Nat.beq i 7) then 12 else bif Nat.beq f 16 && (Nat.beq r 19 && Nat.beq i 2) then 12 else bif Nat.beq f 16 && (Nat.beq r 19 && Nat.beq i 5) then 13 else bif Nat.beq f 28 && (Nat.beq r 5 && Nat.beq i 0) then 9 else bif Nat.beq f 28 && (Nat.beq r 900000 && Nat.beq i 0) then 9 else bif Nat.beq f 34 && (Nat.beq r 2 && Nat.beq i 2) then 12 else bif Nat.beq f 34 && (Nat.beq r 4 && Nat.beq i 3) then 12 else bif Nat.beq f 34 && (Nat.beq r 4 && Nat.beq i 5) then 12 else bif Nat.beq f 34 && (Nat.beq r 6 && Nat.beq i 3) then 12 else bif Nat.beq f 34 && (Nat.beq r 6 && Nat.beq i 5) then 12 else bif Nat.beq f 34 && (Nat.beq r 8 && Nat.beq i 4) then 12 else bif Nat.beq f 34 && (Nat.beq r 8 && Nat.beq i 6) then 12 else bif Nat.beq f 34 && (Nat.beq r 10 && Nat.beq i 2) then 12 else bif Nat.beq f 34 && (Nat.beq r 10 && Nat.beq i 4) then 13 else bif Nat.beq f 41 && (Nat.beq r 8 && Nat.beq i 5) then 1 else bif Nat.beq f 42 && (Nat.beq r 6 && Nat.beq i 0) then 9 else bif Nat.beq f 42 && (Nat.beq r 900000 && Nat.beq i 0) then 9 else bif Nat.beq f 52 && (Nat.beq r 1 && Nat.beq i 2) then 12 else bif Nat.beq f 52 && (Nat.beq r 5 && Nat.beq i 7) then 12 else bif Nat.beq f 52 && (Nat.beq r 5 && Nat.beq i 8) then 12 else 0
def cutF (f n : Nat) : Bool := Nat.beq f 4 && (Nat.beq n 41 || Nat.beq n 63 || Nat.beq n 98 || Nat.beq n 200008 || Nat.beq n 200014 || Nat.beq n 200029) || Nat.beq f 27 && (Nat.beq n 17 || Nat.beq n 100000) || Nat.beq f 30 && (Nat.beq n 13) || Nat.beq f 41 && (Nat.beq n 100000)
def effF (f : Nat) : Bool := Nat.beq f 12 || Nat.beq f 13 || Nat.beq f 14 || Nat.beq f 16 || Nat.beq f 17 || Nat.beq f 28 || Nat.beq f 29 || Nat.beq f 30 || Nat.beq f 31 || Nat.beq f 34 || Nat.beq f 42 || Nat.beq f 43 || Nat.beq f 44 || Nat.beq f 45 || Nat.beq f 52
def postF (f r i : Nat) : Nat := bif Nat.beq f 16 && (Nat.beq r 12 && Nat.beq i 7) then 1 else bif Nat.beq f 16 && (Nat.beq r 19 && Nat.beq i 7) then 1 else bif Nat.beq f 34 && (Nat.beq r 10 && Nat.beq i 6) then 1 else 0
def tyF (t j : Nat) : Nat := bif Nat.beq t 23 && Nat.beq j 4 then 24 else bif Nat.beq t 23 && Nat.beq j 999999 then 5 else bif Nat.beq t 24 && Nat.beq j 4 then 24 else bif Nat.beq t 24 && Nat.beq j 999999 then 5 else bif Nat.beq t 55 && Nat.beq j 3 then 56 else bif Nat.beq t 55 && Nat.beq j 999999 then 4 else bif Nat.beq t 56 && Nat.beq j 3 then 56 else bif Nat.beq t 56 && Nat.beq j 999999 then 4 else bif Nat.beq t 57 && Nat.beq j 4 then 56 else bif Nat.beq t 57 && Nat.beq j 8 then 56 else bif Nat.beq t 57 && Nat.beq j 999999 then 9 else bif Nat.beq t 58 && Nat.beq j 4 then 56 else bif Nat.beq t 58 && Nat.beq j 8 then 56 else bif Nat.beq t 58 && Nat.beq j 999999 then 9 else bif Nat.beq t 61 && Nat.beq j 3 then 62 else bif Nat.beq t 61 && Nat.beq j 999999 then 4 else bif Nat.beq t 62 && Nat.beq j 3 then 62 else bif Nat.beq t 62 && Nat.beq j 999999 then 4 else bif Nat.beq t 63 && Nat.beq j 4 then 62 else bif Nat.beq t 63 && Nat.beq j 8 then 62 else bif Nat.beq t 63 && Nat.beq j 999999 then 9 else bif Nat.beq t 64 && Nat.beq j 4 then 62 else bif Nat.beq t 64 && Nat.beq j 8 then 62 else bif Nat.beq t 64 && Nat.beq j 999999 then 9 else 0
def orcF (f : FuncId) (xs : List A0) (obs : List Ob) (rs : List A0) (obs2 : List Ob) : Prop := (∃ e g zs, f = 44 ∧ xs = [.ref 0 g] ∧ obs = [.own e 1 (List.map VV.str zs) g false] ∧ rs = [] ∧ obs2 = [.own e 1 (List.map VV.str (sortS zs)) g false] ∧ zs.length < 4611686018427387904) ∨ (∃ e g zs, f = 45 ∧ xs = [.ref 0 g] ∧ obs = [.own e 1 (List.map VV.str zs) g false] ∧ rs = [.ref 0 (g + 1)] ∧ obs2 = [.own e 1 (List.map VV.str (compactS zs)) (g + 1) false] ∧ zs.length ≤ 9223372036854775807) ∨ False
noncomputable def G : Env := { P := Try.prog, ti := assoc tis, fn := assoc [(4, Try.f4), (10, Try.f10), (11, Try.f11), (12, Try.f12), (13, Try.f13), (14, Try.f14), (15, Try.f15), (16, Try.f16), (17, Try.f17), (18, Try.f18), (26, Try.f26), (27, Try.f27), (28, Try.f28), (29, Try.f29), (30, Try.f30), (31, Try.f31), (32, Try.f32), (33, Try.f33), (34, Try.f34), (40, Try.f40), (41, Try.f41), (42, Try.f42), (43, Try.f43), (44, Try.f44), (45, Try.f45), (46, Try.f46), (50, Try.f50), (51, Try.f51), (52, Try.f52), (55, Try.f55)], hint := hintF, eff := effF, cut := cutF, orc := orcF, tab := { ty := tyF }, post := postF }
theorem orc44 {e g : Nat} {zs r : List ByteArray} (h : slices_Sort_string.f zs = some r) : CE G 44 [.ref 0 g] [.own e 1 (zs.map VV.str) g false] [] [.own e 1 (r.map VV.str) g false] := by
  unfold slices_Sort_string.f at h
  split at h
  · rename_i hc_
    cases h; exact CE.orc (.inl ⟨e, g, zs, rfl, rfl, rfl, rfl, rfl, hc_⟩)
  · cases h
theorem orc45 {e g : Nat} {zs r : List ByteArray} (h : slices_Compact_string.f zs = some r) : CE G 45 [.ref 0 g] [.own e 1 (zs.map VV.str) g false] [.ref 0 (g + 1)] [.own e 1 (r.map VV.str) (g + 1) false] := by
  unfold slices_Compact_string.f at h
  split at h
  · rename_i hc_
    cases h; exact CE.orc (.inr (.inl ⟨e, g, zs, rfl, rfl, rfl, rfl, rfl, hc_⟩))
  · cases h
theorem zz {p q : Prop} (h : q) (e : Hq q → p := by
  intro q_
  repeat ((conv => whnf); first
    | (refine And.intro ?_ ?_; (first | with_reducible exact zdraw | exact zside | exact szok_map sz56 _ | exact szok_map sz58 _ | exact szok_map sz62 _ | exact szok_map sz64 _))
    | (apply Or.inl; refine And.intro zq ?_)
    | (apply Or.inr; refine And.intro zq ?_)
    | with_reducible refine z_bits ?_
    | refine z_wrap' ?_
    | refine z_wrap8 ?_
    | refine Exists.intro _ (And.intro (List.length_map _) ?_)
    | (refine z_byte ?_ ?_ ?_; (exact zside); (exact zside); intro b_ hb_; (try rw [hb_]); clear hb_ b_)
    | (refine Exists.intro _ (And.intro (nth56 _ _ ?_ ?_) ?_); (exact zside); (exact zside))
    | (refine Exists.intro _ (And.intro (nth58 _ _ ?_ ?_) ?_); (exact zside); (exact zside))
    | (refine Exists.intro _ (And.intro (nth62 _ _ ?_ ?_) ?_); (exact zside); (exact zside))
    | (refine Exists.intro _ (And.intro (nth64 _ _ ?_ ?_) ?_); (exact zside); (exact zside))
    | (refine Exists.intro _ (And.intro (nthR _ _ (0 : Int) _ ?_ ?_) ?_); (exact zside); (exact zside))
    | (refine Exists.intro _ (And.intro (nthR _ _ ByteArray.empty _ ?_ ?_) ?_); (exact zside); (exact zside))
    | refine z_max ?_
    | refine z_min ?_
    | refine z_mod ?_
    | refine z_bytes ?_
    | refine z_wrapk ?_
    | refine z_shr ?_)
  (try conv => whnf)
  exact q_.out) : p := e ⟨h⟩
theorem zl {p q : Prop} (h : q) (e : Hq q → p := by
  intro q_
  repeat ((conv => whnf); first
    | (refine And.intro ?_ ?_; (first | with_reducible exact zdraw | exact zside | exact szok_map sz56 _ | exact szok_map sz58 _ | exact szok_map sz62 _ | exact szok_map sz64 _))
    | (apply Or.inl; refine And.intro zq ?_)
    | (apply Or.inr; refine And.intro zq ?_)
    | with_reducible refine z_bits ?_
    | refine z_wrap' ?_
    | refine z_wrap8 ?_
    | refine Exists.intro _ (And.intro (List.length_map _) ?_)
    | (refine z_byte ?_ ?_ ?_; (exact zside); (exact zside); intro b_ hb_; (try rw [hb_]); clear hb_ b_)
    | (refine Exists.intro _ (And.intro (nth56 _ _ ?_ ?_) ?_); (exact zside); (exact zside))
    | (refine Exists.intro _ (And.intro (nth58 _ _ ?_ ?_) ?_); (exact zside); (exact zside))
    | (refine Exists.intro _ (And.intro (nth62 _ _ ?_ ?_) ?_); (exact zside); (exact zside))
    | (refine Exists.intro _ (And.intro (nth64 _ _ ?_ ?_) ?_); (exact zside); (exact zside))
    | (refine Exists.intro _ (And.intro (nthR _ _ (0 : Int) _ ?_ ?_) ?_); (exact zside); (exact zside))
    | (refine Exists.intro _ (And.intro (nthR _ _ ByteArray.empty _ ?_ ?_) ?_); (exact zside); (exact zside))
    | refine z_max ?_
    | refine z_min ?_
    | refine z_mod ?_
    | refine z_bytes ?_
    | refine z_wrapk ?_
    | refine z_shr ?_)
  (try conv => whnf)
  try (apply Or.inl; refine zK ?_)
  exact q_.out) : p := e ⟨h⟩
theorem zr {p q : Prop} (h : q) (e : Hq q → p := by
  intro q_
  repeat ((conv => whnf); first
    | (refine And.intro ?_ ?_; (first | with_reducible exact zdraw | exact zside | exact szok_map sz56 _ | exact szok_map sz58 _ | exact szok_map sz62 _ | exact szok_map sz64 _))
    | (apply Or.inl; refine And.intro zq ?_)
    | (apply Or.inr; refine And.intro zq ?_)
    | with_reducible refine z_bits ?_
    | refine z_wrap' ?_
    | refine z_wrap8 ?_
    | refine Exists.intro _ (And.intro (List.length_map _) ?_)
    | (refine z_byte ?_ ?_ ?_; (exact zside); (exact zside); intro b_ hb_; (try rw [hb_]); clear hb_ b_)
    | (refine Exists.intro _ (And.intro (nth56 _ _ ?_ ?_) ?_); (exact zside); (exact zside))
    | (refine Exists.intro _ (And.intro (nth58 _ _ ?_ ?_) ?_); (exact zside); (exact zside))
    | (refine Exists.intro _ (And.intro (nth62 _ _ ?_ ?_) ?_); (exact zside); (exact zside))
    | (refine Exists.intro _ (And.intro (nth64 _ _ ?_ ?_) ?_); (exact zside); (exact zside))
    | (refine Exists.intro _ (And.intro (nthR _ _ (0 : Int) _ ?_ ?_) ?_); (exact zside); (exact zside))
    | (refine Exists.intro _ (And.intro (nthR _ _ ByteArray.empty _ ?_ ?_) ?_); (exact zside); (exact zside))
    | refine z_max ?_
    | refine z_min ?_
    | refine z_mod ?_
    | refine z_bytes ?_
    | refine z_wrapk ?_
    | refine z_shr ?_)
  (try conv => whnf)
  try (apply Or.inr; refine zK ?_)
  exact q_.out) : p := e ⟨h⟩

end Go.Proofs.Ytccldchklemogaa.TFnExactNames
