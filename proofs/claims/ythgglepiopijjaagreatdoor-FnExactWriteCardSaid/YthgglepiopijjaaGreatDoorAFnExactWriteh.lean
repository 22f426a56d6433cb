/- The walks of the functions that FnExactWrite reaches, through the abstract machine. -/
import Derived.Test.YthgglepiopijjaaGreatDoorAm18
import Derived.Test.YthgglepiopijjaaGreatDoorFFnExactWrite
import Derived.Test.YthgglepiopijjaaGreatDoorProg
set_option maxHeartbeats 4000000
set_option maxRecDepth 100000
set_option linter.unusedVariables false
set_option linter.unusedSimpArgs false
namespace Go.Proofs.YthgglepiopijjaaGreatDoor.TFnExactWrite
open Go Go.RowKit Go.Proofs Go.Proofs.YthgglepiopijjaaGreatDoorW.AM Go.Proofs.YthgglepiopijjaaGreatDoor.QFnExactWrite Go.Proofs.YthgglepiopijjaaGreatDoorW.PrintWords Go.Proofs.YthgglepiopijjaaGreatDoorW.Pgs
variable {m_ : Int}
mutual
def e32 : S32 → VV
  | ⟨f0, f1, f2, f3⟩ => .agg [.int .i64 f0, .int .i64 f1, .str f2, .row (e32L f3)]
def e32L : List S32 → List VV
  | [] => []
  | x :: xs => e32 x :: e32L xs
end
theorem e32L_eq : ∀ l, e32L l = l.map e32
  | [] => by rw [e32L]; rfl
  | x :: xs => by rw [e32L, e32L_eq xs]; rfl
@[simp] theorem e32_eq (s : S32) : e32 s = .agg [.int .i64 s.f0, .int .i64 s.f1, .str s.f2, .row ((s.f3).map e32)] := by cases s; simp only [e32, e32L_eq]
theorem sz32 (s : S32) : (e32 s).cells.length = 4 := by rw [e32_eq]; rfl
theorem nth32 (l : List S32) (i : Int) (h0 : 0 ≤ i) (h1 : i < (l.length : Int)) : (l.map e32)[i.toNat]? = some (.agg [.int .i64 (rd_T32 l i).f0, .int .i64 (rd_T32 l i).f1, .str (rd_T32 l i).f2, .row (((rd_T32 l i).f3).map e32)]) := by rw [nthM l e32 z32 i h0 h1, e32_eq]; rfl
def e34 (s : S34) : VV := .agg [.int .i64 s.f0, .int .i64 s.f1, .int .i64 s.f2, .str s.f3, .row ((s.f4).map e32), .int .i64 s.f5, .int .i64 s.f6, .str s.f7, .row ((s.f8).map e32)]
theorem sz34 (s : S34) : (e34 s).cells.length = 9 := rfl
theorem nth34 (l : List S34) (i : Int) (h0 : 0 ≤ i) (h1 : i < (l.length : Int)) : (l.map e34)[i.toNat]? = some (.agg [.int .i64 (rd_T34 l i).f0, .int .i64 (rd_T34 l i).f1, .int .i64 (rd_T34 l i).f2, .str (rd_T34 l i).f3, .row (((rd_T34 l i).f4).map e32), .int .i64 (rd_T34 l i).f5, .int .i64 (rd_T34 l i).f6, .str (rd_T34 l i).f7, .row (((rd_T34 l i).f8).map e32)]) := nthM l e34 z34 i h0 h1
mutual
def e38 : S38 → VV
  | ⟨f0, f1, f2, f3⟩ => .agg [.int .i64 f0, .int .i64 f1, .str f2, .row (e38L f3)]
def e38L : List S38 → List VV
  | [] => []
  | x :: xs => e38 x :: e38L xs
end
theorem e38L_eq : ∀ l, e38L l = l.map e38
  | [] => by rw [e38L]; rfl
  | x :: xs => by rw [e38L, e38L_eq xs]; rfl
@[simp] theorem e38_eq (s : S38) : e38 s = .agg [.int .i64 s.f0, .int .i64 s.f1, .str s.f2, .row ((s.f3).map e38)] := by cases s; simp only [e38, e38L_eq]
theorem sz38 (s : S38) : (e38 s).cells.length = 4 := by rw [e38_eq]; rfl
theorem nth38 (l : List S38) (i : Int) (h0 : 0 ≤ i) (h1 : i < (l.length : Int)) : (l.map e38)[i.toNat]? = some (.agg [.int .i64 (rd_T38 l i).f0, .int .i64 (rd_T38 l i).f1, .str (rd_T38 l i).f2, .row (((rd_T38 l i).f3).map e38)]) := by rw [nthM l e38 z38 i h0 h1, e38_eq]; rfl
def e40 (s : S40) : VV := .agg [.int .i64 s.f0, .int .i64 s.f1, .int .i64 s.f2, .str s.f3, .row ((s.f4).map e38), .int .i64 s.f5, .int .i64 s.f6, .str s.f7, .row ((s.f8).map e38)]
theorem sz40 (s : S40) : (e40 s).cells.length = 9 := rfl
theorem nth40 (l : List S40) (i : Int) (h0 : 0 ≤ i) (h1 : i < (l.length : Int)) : (l.map e40)[i.toNat]? = some (.agg [.int .i64 (rd_T40 l i).f0, .int .i64 (rd_T40 l i).f1, .int .i64 (rd_T40 l i).f2, .str (rd_T40 l i).f3, .row (((rd_T40 l i).f4).map e38), .int .i64 (rd_T40 l i).f5, .int .i64 (rd_T40 l i).f6, .str (rd_T40 l i).f7, .row (((rd_T40 l i).f8).map e38)]) := nthM l e40 z40 i h0 h1
def tis : List (Nat × TI) := [(3, ⟨false, 1, 8, [.int .i64 (0)], none, [], some .i64, false, false⟩), (4, ⟨false, 1, 1, [.bool false], none, [], none, false, true⟩), (5, ⟨false, 1, 1, [.int .u8 (0)], none, [], some .u8, false, false⟩), (9, ⟨false, 1, 16, [.string ⟨#[]⟩], none, [], none, true, false⟩), (22, ⟨false, 1, 24, [.slice none 0 0], some 34, [], none, false, false⟩), (25, ⟨false, 1, 24, [.slice none 0 0], some 40, [], none, false, false⟩), (30, ⟨false, 1, 24, [.slice none 0 0], some 32, [], none, false, false⟩), (32, ⟨true, 4, 56, [.int .i64 (0), .int .i64 (0), .string ⟨#[]⟩, .slice none 0 0], none, [(0, 3, 1), (1, 3, 1), (2, 9, 1), (3, 30, 1)], none, false, false⟩), (34, ⟨true, 9, 120, [.int .i64 (0), .int .i64 (0), .int .i64 (0), .string ⟨#[]⟩, .slice none 0 0, .int .i64 (0), .int .i64 (0), .string ⟨#[]⟩, .slice none 0 0], none, [(0, 3, 1), (1, 32, 4), (5, 32, 4)], none, false, false⟩), (36, ⟨false, 1, 24, [.slice none 0 0], some 38, [], none, false, false⟩), (38, ⟨true, 4, 56, [.int .i64 (0), .int .i64 (0), .string ⟨#[]⟩, .slice none 0 0], none, [(0, 3, 1), (1, 3, 1), (2, 9, 1), (3, 36, 1)], none, false, false⟩), (40, ⟨true, 9, 120, [.int .i64 (0), .int .i64 (0), .int .i64 (0), .string ⟨#[]⟩, .slice none 0 0, .int .i64 (0), .int .i64 (0), .string ⟨#[]⟩, .slice none 0 0], none, [(0, 3, 1), (1, 38, 4), (5, 38, 4)], none, false, false⟩), (47, ⟨false, 1, 8, [.nilFunc], none, [], none, false, false⟩), (49, ⟨false, 1, 24, [.slice none 0 0], some 9, [], none, false, false⟩), (55, ⟨false, 1, 8, [.nilFunc], none, [], none, false, false⟩), (65, ⟨false, 1, 24, [.slice none 0 0], some 5, [], none, false, false⟩)]
def hintF (f r i : Nat) : Nat := bif Nat.beq f 6 && (Nat.beq r 6 && Nat.beq i 1) then 1 else bif Nat.beq f 38 && (Nat.beq r 7 && Nat.beq i 0) then 1 else bif Nat.beq f 48 && (Nat.beq r 1 && Nat.beq i 1) then 1 else bif Nat.beq f 54 && (Nat.beq r 6 && Nat.beq i 1) then 1 else bif Nat.beq f 65 && (Nat.beq r 1 && Nat.beq i 1) then 1 else bif Nat.beq f 76 && (Nat.beq r 1 && Nat.beq i 0) then 4 else 0
def cutF (f n : Nat) : Bool := Nat.beq f 5 && (Nat.beq n 13 || Nat.beq n 100002 || Nat.beq n 200003) || Nat.beq f 7 && (Nat.beq n 100002) || Nat.beq f 10 && (Nat.beq n 200005 || Nat.beq n 200006) || Nat.beq f 11 && (Nat.beq n 100001) || Nat.beq f 15 && (Nat.beq n 41 || Nat.beq n 200010) || Nat.beq f 21 && (Nat.beq n 44 || Nat.beq n 200001) || Nat.beq f 24 && (Nat.beq n 18) || Nat.beq f 25 && (Nat.beq n 15 || Nat.beq n 200001) || Nat.beq f 26 && (Nat.beq n 12) || Nat.beq f 27 && (Nat.beq n 35) || Nat.beq f 30 && (Nat.beq n 21 || Nat.beq n 200001) || Nat.beq f 34 && (Nat.beq n 101 || Nat.beq n 110 || Nat.beq n 120) || Nat.beq f 35 && (Nat.beq n 10) || Nat.beq f 36 && (Nat.beq n 20 || Nat.beq n 200005) || Nat.beq f 40 && (Nat.beq n 35) || Nat.beq f 43 && (Nat.beq n 10 || Nat.beq n 23 || Nat.beq n 45 || Nat.beq n 70) || Nat.beq f 80 && (Nat.beq n 4)
def effF (f : Nat) : Bool := false
def tabF (m : Int) (b j : Nat) : Option Value := bif Nat.beq b 0 && Nat.beq j 0 then some (.int .i64 m) else bif Nat.beq b 3 then (Lib.pow10Tab[j]?).map (Value.int .u64) else none
def tabZ (b : Nat) : Option Nat := bif Nat.beq b 3 then some 20 else none
def orcF (f : FuncId) (xs : List A0) (obs : List Ob) (rs : List A0) (obs2 : List Ob) : Prop := (∃ s c d, f = 37 ∧ xs = [.val (.str s), .val (.str c), .val (.str d)] ∧ obs = [] ∧ rs = [.val (.str ⟨(Lib.replaceAll s.data.toList c.data.toList d.data.toList).toArray⟩)] ∧ obs2 = [] ∧ (s.size < 4294967281 ∧ 1 ≤ c.size ∧ s.size + Lib.countB s c * d.size ≤ 140737488355328)) ∨ (∃ s, f = 68 ∧ xs = [.val (.int .i64 s)] ∧ obs = [] ∧ rs = [.val (.str ⟨(Lib.itoa s).toArray⟩)] ∧ obs2 = [] ∧ (-9223372036854775808 ≤ s ∧ s ≤ 9223372036854775807)) ∨ (∃ s c, f = 69 ∧ xs = [.val (.str s), .val (.str ⟨#[c]⟩)] ∧ obs = [] ∧ rs = [.val (.str ⟨(Lib.trimRightB s.data.toList c).toArray⟩)] ∧ obs2 = [] ∧ (c.toNat < 128 ∧ s.size ≤ 9223372036854775807)) ∨ (∃ l c, f = 71 ∧ xs = [.val (.row (List.map VV.str l)), .val (.str c)] ∧ obs = [] ∧ rs = [.val (.str ⟨(Lib.join (List.map (fun s : ByteArray => s.data.toList) l) c.data.toList).toArray⟩)] ∧ obs2 = [] ∧ (l.length ≤ 140737488355328 ∧ (Lib.join (List.map (fun s : ByteArray => s.data.toList) l) c.data.toList).length ≤ 140737488355328)) ∨ (∃ s c, f = 78 ∧ xs = [.val (.str s), .val (.str c)] ∧ obs = [] ∧ rs = [.val (.bool (Lib.contains s.data.toList c.data.toList))] ∧ obs2 = [] ∧ s.size < 4294967281) ∨ False
noncomputable def G (m_ : Int) : Env := { P := Tryz.prog, ti := assoc tis, fn := assoc [(3, Tryz.f3), (4, Tryz.f4), (5, Tryz.f5), (6, Tryz.f6), (7, Tryz.f7), (8, Tryz.f8), (9, Tryz.f9), (10, Tryz.f10), (11, Tryz.f11), (12, Tryz.f12), (13, Tryz.f13), (14, Tryz.f14), (15, Tryz.f15), (16, Tryz.f16), (17, Tryz.f17), (18, Tryz.f18), (19, Tryz.f19), (20, Tryz.f20), (21, Tryz.f21), (22, Tryz.f22), (23, Tryz.f23), (24, Tryz.f24), (25, Tryz.f25), (26, Tryz.f26), (27, Tryz.f27), (28, Tryz.f28), (29, Tryz.f29), (30, Tryz.f30), (31, Tryz.f31), (32, Tryz.f32), (33, Tryz.f33), (34, Tryz.f34), (35, Tryz.f35), (36, Tryz.f36), (37, Tryz.f37), (38, Tryz.f38), (39, Tryz.f39), (40, Tryz.f40), (41, Tryz.f41), (42, Tryz.f42), (43, Tryz.f43), (44, Tryz.f44), (45, Tryz.f45), (46, Tryz.f46), (47, Tryz.f47), (48, Tryz.f48), (49, Tryz.f49), (50, Tryz.f50), (51, Tryz.f51), (52, Tryz.f52), (53, Tryz.f53), (54, Tryz.f54), (55, Tryz.f55), (56, Tryz.f56), (57, Tryz.f57), (58, Tryz.f58), (59, Tryz.f59), (60, Tryz.f60), (61, Tryz.f61), (62, Tryz.f62), (63, Tryz.f63), (64, Tryz.f64), (65, Tryz.f65), (66, Tryz.f66), (67, Tryz.f67), (68, Tryz.f68), (69, Tryz.f69), (71, Tryz.f71), (72, Tryz.f72), (73, Tryz.f73), (74, Tryz.f74), (75, Tryz.f75), (76, Tryz.f76), (77, Tryz.f77), (78, Tryz.f78), (79, Tryz.f79), (80, Tryz.f80), (81, Tryz.f81), (82, Tryz.f82), (94, Tryz.f94)], hint := hintF, eff := effF, cut := cutF, orc := orcF, tab := { c := tabF m_, z := tabZ } }
theorem orc37 {s b d : ByteArray} {r : ByteArray} (h : strings_ReplaceAll.f s b d = some r) : CE (G m_) 37 [.val (.str s), .val (.str b), .val (.str d)] [] [.val (.str r)] [] := by
  unfold strings_ReplaceAll.f at h; split at h
  · rename_i hc; cases h; exact CE.orc (.inl ⟨s, b, d, rfl, rfl, rfl, rfl, rfl, hc⟩)
  · cases h
theorem orc68 {s : Int} {r : ByteArray} (h : strconv_Itoa.f s = some r) : CE (G m_) 68 [.val (.int .i64 s)] [] [.val (.str r)] [] := by
  unfold strconv_Itoa.f at h; split at h
  · rename_i hc; cases h; exact CE.orc (.inr (.inl ⟨s, rfl, rfl, rfl, rfl, rfl, hc⟩))
  · cases h
theorem orc69 {s b : ByteArray} {r : ByteArray} (h : strings_TrimRight.f s b = some r) : CE (G m_) 69 [.val (.str s), .val (.str b)] [] [.val (.str r)] [] := by
  unfold strings_TrimRight.f at h
  split at h
  · rename_i c_ hc_
    have e_ : b = ⟨#[c_]⟩ := by
      obtain ⟨⟨l_⟩⟩ := b
      simp only at hc_
      subst hc_
      rfl
    subst e_
    split at h
    · rename_i hc; cases h; exact CE.orc (.inr (.inr (.inl ⟨s, c_, rfl, rfl, rfl, rfl, rfl, hc⟩)))
    · cases h
  · cases h
theorem orc71 {l : List ByteArray} {b : ByteArray} {r : ByteArray} (h : strings_Join.f l b = some r) : CE (G m_) 71 [.val (.row (List.map VV.str l)), .val (.str b)] [] [.val (.str r)] [] := by
  unfold strings_Join.f at h; split at h
  · rename_i hc; cases h; exact CE.orc (.inr (.inr (.inr (.inl ⟨l, b, rfl, rfl, rfl, rfl, rfl, hc⟩))))
  · cases h
theorem orc78 {s b : ByteArray} {r : Bool} (h : strings_Contains.f s b = some r) : CE (G m_) 78 [.val (.str s), .val (.str b)] [] [.val (.bool r)] [] := by
  unfold strings_Contains.f at h; split at h
  · rename_i hc; cases h; exact CE.orc (.inr (.inr (.inr (.inr (.inl ⟨s, b, rfl, rfl, rfl, rfl, rfl, hc⟩)))))
  · cases h
theorem zz {p q : Prop} (h : q) (e : Hq q → p := by
  intro q_
  repeat ((conv => whnf); first
    | (refine And.intro ?_ ?_; (first | with_reducible exact zdraw | exact zside | exact szok_map sz32 _ | exact szok_map sz34 _ | exact szok_map sz38 _ | exact szok_map sz40 _))
    | (apply Or.inl; refine And.intro zq ?_)
    | (apply Or.inr; refine And.intro zq ?_)
    | with_reducible refine z_bits ?_
    | refine z_wrap' ?_
    | refine z_wrap8 ?_
    | refine Exists.intro _ (And.intro (List.length_map _) ?_)
    | (refine z_byte ?_ ?_ ?_; (exact zside); (exact zside); intro b_ hb_; (try rw [hb_]); clear hb_ b_)
    | (refine Exists.intro _ (And.intro (nth32 _ _ ?_ ?_) ?_); (exact zside); (exact zside))
    | (refine Exists.intro _ (And.intro (nth34 _ _ ?_ ?_) ?_); (exact zside); (exact zside))
    | (refine Exists.intro _ (And.intro (nth38 _ _ ?_ ?_) ?_); (exact zside); (exact zside))
    | (refine Exists.intro _ (And.intro (nth40 _ _ ?_ ?_) ?_); (exact zside); (exact zside))
    | (refine Exists.intro _ (And.intro (nthR _ _ (0 : Int) _ ?_ ?_) ?_); (exact zside); (exact zside))
    | (refine Exists.intro _ (And.intro (nthR _ _ ByteArray.empty _ ?_ ?_) ?_); (exact zside); (exact zside))
    | refine z_max ?_
    | refine z_min ?_
    | refine z_mod ?_
    | refine z_bytes ?_
    | refine z_wrapk ?_
    | refine z_shr ?_)
  (try conv => whnf)
  exact q_.out) : p := e ⟨h⟩

end Go.Proofs.YthgglepiopijjaaGreatDoor.TFnExactWrite
