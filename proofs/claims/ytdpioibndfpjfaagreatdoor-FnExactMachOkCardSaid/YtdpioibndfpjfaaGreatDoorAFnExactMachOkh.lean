/- The walks of the functions that FnExactMachOk reaches, through the abstract machine. -/
import Derived.Test.YtdpioibndfpjfaaGreatDoorAm18
import Derived.Test.YtdpioibndfpjfaaGreatDoorFFnExactMachOk
import Derived.Test.YtdpioibndfpjfaaGreatDoorProg
set_option maxHeartbeats 4000000
set_option maxRecDepth 100000
set_option linter.unusedVariables false
set_option linter.unusedSimpArgs false
namespace Go.Proofs.YtdpioibndfpjfaaGreatDoor.TFnExactMachOk
open Go Go.RowKit Go.Proofs Go.Proofs.YtdpioibndfpjfaaGreatDoorW.AM Go.Proofs.YtdpioibndfpjfaaGreatDoor.QFnExactMachOk Go.Proofs.YtdpioibndfpjfaaGreatDoorW.PrintWords Go.Proofs.YtdpioibndfpjfaaGreatDoorW.Pgs
def e69 (s : S69) : VV := .agg [.int .i64 s.f0, .int .i64 s.f1, .str s.f2]
theorem sz69 (s : S69) : (e69 s).cells.length = 3 := rfl
theorem nth69 (l : List S69) (i : Int) (h0 : 0 ≤ i) (h1 : i < (l.length : Int)) : (l.map e69)[i.toNat]? = some (.agg [.int .i64 (rd_T69 l i).f0, .int .i64 (rd_T69 l i).f1, .str (rd_T69 l i).f2]) := nthM l e69 z69 i h0 h1
def e25 (s : S25) : VV := .agg [.row ((s.f0).map VV.str), .row ((s.f1).map VV.str), .row ((s.f2).map e69), .row ((s.f3).map e69)]
theorem sz25 (s : S25) : (e25 s).cells.length = 4 := rfl
theorem nth25 (l : List S25) (i : Int) (h0 : 0 ≤ i) (h1 : i < (l.length : Int)) : (l.map e25)[i.toNat]? = some (.agg [.row (((rd_T25 l i).f0).map VV.str), .row (((rd_T25 l i).f1).map VV.str), .row (((rd_T25 l i).f2).map e69), .row (((rd_T25 l i).f3).map e69)]) := nthM l e25 z25 i h0 h1
def e94 (s : S94) : VV := .agg [.int .i64 s.f0, .int .i64 s.f1, .str s.f2]
theorem sz94 (s : S94) : (e94 s).cells.length = 3 := rfl
theorem nth94 (l : List S94) (i : Int) (h0 : 0 ≤ i) (h1 : i < (l.length : Int)) : (l.map e94)[i.toNat]? = some (.agg [.int .i64 (rd_T94 l i).f0, .int .i64 (rd_T94 l i).f1, .str (rd_T94 l i).f2]) := nthM l e94 z94 i h0 h1
def e97 (s : S97) : VV := .agg [.int .i64 s.f0, .str s.f1, .int .i64 s.f2, .int .i64 s.f3, .str s.f4]
theorem sz97 (s : S97) : (e97 s).cells.length = 5 := rfl
theorem nth97 (l : List S97) (i : Int) (h0 : 0 ≤ i) (h1 : i < (l.length : Int)) : (l.map e97)[i.toNat]? = some (.agg [.int .i64 (rd_T97 l i).f0, .str (rd_T97 l i).f1, .int .i64 (rd_T97 l i).f2, .int .i64 (rd_T97 l i).f3, .str (rd_T97 l i).f4]) := nthM l e97 z97 i h0 h1
def e29 (s : S29) : VV := .agg [.row ((s.f0).map e94), .row ((s.f1).map e97), .int .i64 s.f2, .int .i64 s.f3]
theorem sz29 (s : S29) : (e29 s).cells.length = 4 := rfl
theorem nth29 (l : List S29) (i : Int) (h0 : 0 ≤ i) (h1 : i < (l.length : Int)) : (l.map e29)[i.toNat]? = some (.agg [.row (((rd_T29 l i).f0).map e94), .row (((rd_T29 l i).f1).map e97), .int .i64 (rd_T29 l i).f2, .int .i64 (rd_T29 l i).f3]) := nthM l e29 z29 i h0 h1
def e32 (s : S32) : VV := .agg [.row ((s.f0).map e94), .row ((s.f1).map e97), .int .i64 s.f2, .int .i64 s.f3, .row ((s.f4).map (VV.int .i64)), .str s.f5]
theorem sz32 (s : S32) : (e32 s).cells.length = 6 := rfl
theorem nth32 (l : List S32) (i : Int) (h0 : 0 ≤ i) (h1 : i < (l.length : Int)) : (l.map e32)[i.toNat]? = some (.agg [.row (((rd_T32 l i).f0).map e94), .row (((rd_T32 l i).f1).map e97), .int .i64 (rd_T32 l i).f2, .int .i64 (rd_T32 l i).f3, .row (((rd_T32 l i).f4).map (VV.int .i64)), .str (rd_T32 l i).f5]) := nthM l e32 z32 i h0 h1
def e81 (s : S81) : VV := .agg [.int .i64 s.f0, .int .i64 s.f1, .str s.f2]
theorem sz81 (s : S81) : (e81 s).cells.length = 3 := rfl
theorem nth81 (l : List S81) (i : Int) (h0 : 0 ≤ i) (h1 : i < (l.length : Int)) : (l.map e81)[i.toNat]? = some (.agg [.int .i64 (rd_T81 l i).f0, .int .i64 (rd_T81 l i).f1, .str (rd_T81 l i).f2]) := nthM l e81 z81 i h0 h1
def e38 (s : S38) : VV := .agg [.row ((s.f0).map VV.str), .row ((s.f1).map VV.str), .row ((s.f2).map e81), .row ((s.f3).map e81)]
theorem sz38 (s : S38) : (e38 s).cells.length = 4 := rfl
theorem nth38 (l : List S38) (i : Int) (h0 : 0 ≤ i) (h1 : i < (l.length : Int)) : (l.map e38)[i.toNat]? = some (.agg [.row (((rd_T38 l i).f0).map VV.str), .row (((rd_T38 l i).f1).map VV.str), .row (((rd_T38 l i).f2).map e81), .row (((rd_T38 l i).f3).map e81)]) := nthM l e38 z38 i h0 h1
def e77 (s : S77) : VV := .agg [.int .i64 s.f0, .int .i64 s.f1, .str s.f2]
theorem sz77 (s : S77) : (e77 s).cells.length = 3 := rfl
theorem nth77 (l : List S77) (i : Int) (h0 : 0 ≤ i) (h1 : i < (l.length : Int)) : (l.map e77)[i.toNat]? = some (.agg [.int .i64 (rd_T77 l i).f0, .int .i64 (rd_T77 l i).f1, .str (rd_T77 l i).f2]) := nthM l e77 z77 i h0 h1
def e79 (s : S79) : VV := .agg [.int .i64 s.f0, .str s.f1, .int .i64 s.f2, .int .i64 s.f3, .str s.f4]
theorem sz79 (s : S79) : (e79 s).cells.length = 5 := rfl
theorem nth79 (l : List S79) (i : Int) (h0 : 0 ≤ i) (h1 : i < (l.length : Int)) : (l.map e79)[i.toNat]? = some (.agg [.int .i64 (rd_T79 l i).f0, .str (rd_T79 l i).f1, .int .i64 (rd_T79 l i).f2, .int .i64 (rd_T79 l i).f3, .str (rd_T79 l i).f4]) := nthM l e79 z79 i h0 h1
def e43 (s : S43) : VV := .agg [.row ((s.f0).map e77), .row ((s.f1).map e79), .int .i64 s.f2, .int .i64 s.f3]
theorem sz43 (s : S43) : (e43 s).cells.length = 4 := rfl
theorem nth43 (l : List S43) (i : Int) (h0 : 0 ≤ i) (h1 : i < (l.length : Int)) : (l.map e43)[i.toNat]? = some (.agg [.row (((rd_T43 l i).f0).map e77), .row (((rd_T43 l i).f1).map e79), .int .i64 (rd_T43 l i).f2, .int .i64 (rd_T43 l i).f3]) := nthM l e43 z43 i h0 h1
def e45 (s : S45) : VV := .agg [.row ((s.f0).map e77), .row ((s.f1).map e79), .int .i64 s.f2, .int .i64 s.f3, .row ((s.f4).map (VV.int .i64)), .str s.f5]
theorem sz45 (s : S45) : (e45 s).cells.length = 6 := rfl
theorem nth45 (l : List S45) (i : Int) (h0 : 0 ≤ i) (h1 : i < (l.length : Int)) : (l.map e45)[i.toNat]? = some (.agg [.row (((rd_T45 l i).f0).map e77), .row (((rd_T45 l i).f1).map e79), .int .i64 (rd_T45 l i).f2, .int .i64 (rd_T45 l i).f3, .row (((rd_T45 l i).f4).map (VV.int .i64)), .str (rd_T45 l i).f5]) := nthM l e45 z45 i h0 h1
mutual
def e115 : S115 → VV
  | ⟨f0, f1, f2, f3, f4⟩ => .agg [.int .i64 f0, .int .i64 f1, .str f2, .bool f3, .row (e115L f4)]
def e115L : List S115 → List VV
  | [] => []
  | x :: xs => e115 x :: e115L xs
end
theorem e115L_eq : ∀ l, e115L l = l.map e115
  | [] => by rw [e115L]; rfl
  | x :: xs => by rw [e115L, e115L_eq xs]; rfl
@[simp] theorem e115_eq (s : S115) : e115 s = .agg [.int .i64 s.f0, .int .i64 s.f1, .str s.f2, .bool s.f3, .row ((s.f4).map e115)] := by cases s; simp only [e115, e115L_eq]
theorem sz115 (s : S115) : (e115 s).cells.length = 5 := by rw [e115_eq]; rfl
theorem nth115 (l : List S115) (i : Int) (h0 : 0 ≤ i) (h1 : i < (l.length : Int)) : (l.map e115)[i.toNat]? = some (.agg [.int .i64 (rd_T115 l i).f0, .int .i64 (rd_T115 l i).f1, .str (rd_T115 l i).f2, .bool (rd_T115 l i).f3, .row (((rd_T115 l i).f4).map e115)]) := by rw [nthM l e115 z115 i h0 h1, e115_eq]; rfl
def tis : List (Nat × TI) := [(3, ⟨false, 1, 8, [.int .i64 (0)], none, [], some .i64, false, false⟩), (4, ⟨false, 1, 1, [.bool false], none, [], none, false, true⟩), (5, ⟨false, 1, 1, [.int .u8 (0)], none, [], some .u8, false, false⟩), (9, ⟨false, 1, 16, [.string ⟨#[]⟩], none, [], none, true, false⟩), (22, ⟨false, 1, 24, [.slice none 0 0], some 9, [], none, false, false⟩), (23, ⟨false, 1, 24, [.slice none 0 0], some 69, [], none, false, false⟩), (25, ⟨true, 4, 96, [.slice none 0 0, .slice none 0 0, .slice none 0 0, .slice none 0 0], none, [(0, 22, 1), (1, 22, 1), (2, 23, 1), (3, 23, 1)], none, false, false⟩), (26, ⟨false, 1, 24, [.slice none 0 0], some 94, [], none, false, false⟩), (27, ⟨false, 1, 24, [.slice none 0 0], some 97, [], none, false, false⟩), (29, ⟨true, 4, 64, [.slice none 0 0, .slice none 0 0, .int .i64 (0), .int .i64 (0)], none, [(0, 26, 1), (1, 27, 1), (2, 3, 1), (3, 3, 1)], none, false, false⟩), (30, ⟨false, 1, 24, [.slice none 0 0], some 3, [], none, false, false⟩), (32, ⟨true, 6, 104, [.slice none 0 0, .slice none 0 0, .int .i64 (0), .int .i64 (0), .slice none 0 0, .string ⟨#[]⟩], none, [(0, 29, 4), (4, 30, 1), (5, 9, 1)], none, false, false⟩), (36, ⟨false, 1, 24, [.slice none 0 0], some 81, [], none, false, false⟩), (38, ⟨true, 4, 96, [.slice none 0 0, .slice none 0 0, .slice none 0 0, .slice none 0 0], none, [(0, 22, 1), (1, 22, 1), (2, 36, 1), (3, 36, 1)], none, false, false⟩), (40, ⟨false, 1, 24, [.slice none 0 0], some 77, [], none, false, false⟩), (41, ⟨false, 1, 24, [.slice none 0 0], some 79, [], none, false, false⟩), (43, ⟨true, 4, 64, [.slice none 0 0, .slice none 0 0, .int .i64 (0), .int .i64 (0)], none, [(0, 40, 1), (1, 41, 1), (2, 3, 1), (3, 3, 1)], none, false, false⟩), (45, ⟨true, 6, 104, [.slice none 0 0, .slice none 0 0, .int .i64 (0), .int .i64 (0), .slice none 0 0, .string ⟨#[]⟩], none, [(0, 43, 4), (4, 30, 1), (5, 9, 1)], none, false, false⟩), (62, ⟨false, 1, 8, [.nilFunc], none, [], none, false, false⟩), (69, ⟨true, 3, 32, [.int .i64 (0), .int .i64 (0), .string ⟨#[]⟩], none, [(0, 3, 1), (1, 3, 1), (2, 9, 1)], none, false, false⟩), (72, ⟨false, 1, 8, [.nilFunc], none, [], none, false, false⟩), (75, ⟨false, 1, 8, [.nilFunc], none, [], none, false, false⟩), (77, ⟨true, 3, 32, [.int .i64 (0), .int .i64 (0), .string ⟨#[]⟩], none, [(0, 3, 1), (1, 3, 1), (2, 9, 1)], none, false, false⟩), (79, ⟨true, 5, 56, [.int .i64 (0), .string ⟨#[]⟩, .int .i64 (0), .int .i64 (0), .string ⟨#[]⟩], none, [(0, 3, 1), (1, 9, 1), (2, 77, 3)], none, false, false⟩), (81, ⟨true, 3, 32, [.int .i64 (0), .int .i64 (0), .string ⟨#[]⟩], none, [(0, 3, 1), (1, 3, 1), (2, 9, 1)], none, false, false⟩), (94, ⟨true, 3, 32, [.int .i64 (0), .int .i64 (0), .string ⟨#[]⟩], none, [(0, 3, 1), (1, 3, 1), (2, 9, 1)], none, false, false⟩), (97, ⟨true, 5, 56, [.int .i64 (0), .string ⟨#[]⟩, .int .i64 (0), .int .i64 (0), .string ⟨#[]⟩], none, [(0, 3, 1), (1, 9, 1), (2, 94, 3)], none, false, false⟩), (107, ⟨false, 1, 8, [.nilFunc], none, [], none, false, false⟩), (113, ⟨false, 1, 24, [.slice none 0 0], some 115, [], none, false, false⟩), (115, ⟨true, 5, 64, [.int .i64 (0), .int .i64 (0), .string ⟨#[]⟩, .bool false, .slice none 0 0], none, [(0, 3, 1), (1, 3, 1), (2, 9, 1), (3, 4, 1), (4, 113, 1)], none, false, false⟩), (127, ⟨true, 3, 32, [.string ⟨#[]⟩, .int .i64 (0), .bool false], none, [(0, 9, 1), (1, 3, 1), (2, 4, 1)], none, false, false⟩), (142, ⟨true, 2, 24, [.string ⟨#[]⟩, .bool false], none, [(0, 9, 1), (1, 4, 1)], none, false, false⟩), (157, ⟨false, 1, 24, [.slice none 0 0], some 5, [], none, false, false⟩), (181, ⟨false, 1, 24, [.slice none 0 0], some 4, [], none, false, false⟩)]
def hintF (f r i : Nat) : Nat := bif Nat.beq f 19 && (Nat.beq r 6 && Nat.beq i 1) then 1 else bif Nat.beq f 20 && (Nat.beq r 6 && Nat.beq i 1) then 1 else bif Nat.beq f 22 && (Nat.beq r 6 && Nat.beq i 1) then 1 else bif Nat.beq f 41 && (Nat.beq r 6 && Nat.beq i 1) then 1 else bif Nat.beq f 42 && (Nat.beq r 6 && Nat.beq i 1) then 1 else bif Nat.beq f 59 && (Nat.beq r 1 && Nat.beq i 0) then 4 else bif Nat.beq f 77 && (Nat.beq r 1 && Nat.beq i 1) then 1 else bif Nat.beq f 85 && (Nat.beq r 1 && Nat.beq i 1) then 1 else bif Nat.beq f 89 && (Nat.beq r 7 && Nat.beq i 0) then 1 else bif Nat.beq f 105 && (Nat.beq r 9 && Nat.beq i 0) then 1 else bif Nat.beq f 108 && (Nat.beq r 6 && Nat.beq i 0) then 1 else bif Nat.beq f 116 && (Nat.beq r 13 && Nat.beq i 2) then 4 else bif Nat.beq f 117 && (Nat.beq r 10 && Nat.beq i 0) then 1 else bif Nat.beq f 126 && (Nat.beq r 6 && Nat.beq i 3) then 4 else 0
def cutF (f n : Nat) : Bool := Nat.beq f 17 && (Nat.beq n 200004 || Nat.beq n 200009) || Nat.beq f 23 && (Nat.beq n 200001) || Nat.beq f 24 && (Nat.beq n 200001) || Nat.beq f 37 && (Nat.beq n 200002) || Nat.beq f 38 && (Nat.beq n 200001) || Nat.beq f 50 && (Nat.beq n 200001) || Nat.beq f 60 && (Nat.beq n 28 || Nat.beq n 46 || Nat.beq n 65 || Nat.beq n 91) || Nat.beq f 70 && (Nat.beq n 62 || Nat.beq n 75 || Nat.beq n 89 || Nat.beq n 106 || Nat.beq n 200002) || Nat.beq f 79 && (Nat.beq n 46 || Nat.beq n 91 || Nat.beq n 100000 || Nat.beq n 200004 || Nat.beq n 200005 || Nat.beq n 200008 || Nat.beq n 200013 || Nat.beq n 200021) || Nat.beq f 81 && (Nat.beq n 4) || Nat.beq f 83 && (Nat.beq n 16) || Nat.beq f 86 && (Nat.beq n 33 || Nat.beq n 61 || Nat.beq n 200003 || Nat.beq n 200010 || Nat.beq n 200015) || Nat.beq f 105 && (Nat.beq n 100000) || Nat.beq f 117 && (Nat.beq n 100000) || Nat.beq f 124 && (Nat.beq n 200001) || Nat.beq f 136 && (Nat.beq n 13 || Nat.beq n 98 || Nat.beq n 120 || Nat.beq n 148 || Nat.beq n 200007 || Nat.beq n 200011 || Nat.beq n 200021) || Nat.beq f 144 && (Nat.beq n 70 || Nat.beq n 200013)
def effF (f : Nat) : Bool := Nat.beq f 44 || Nat.beq f 45 || Nat.beq f 66 || Nat.beq f 68 || Nat.beq f 69 || Nat.beq f 82 || Nat.beq f 89 || Nat.beq f 105 || Nat.beq f 106 || Nat.beq f 108 || Nat.beq f 116 || Nat.beq f 117 || Nat.beq f 118 || Nat.beq f 124 || Nat.beq f 125 || Nat.beq f 126 || Nat.beq f 136 || Nat.beq f 137 || Nat.beq f 144
def orcF (f : FuncId) (xs : List A0) (obs : List Ob) (rs : List A0) (obs2 : List Ob) : Prop := (∃ s c, f = 74 ∧ xs = [.val (.str s), .val (.str c)] ∧ obs = [] ∧ rs = [.val (.int .i64 (Lib.compareBytes s.data.toList c.data.toList))] ∧ obs2 = []) ∨ (∃ s c, f = 87 ∧ xs = [.val (.str s), .val (.str ⟨#[c]⟩)] ∧ obs = [] ∧ rs = [.val (.str ⟨(Lib.trimB s.data.toList c).toArray⟩)] ∧ obs2 = [] ∧ (c.toNat < 128 ∧ s.size ≤ 9223372036854775807)) ∨ (∃ s c, f = 94 ∧ xs = [.val (.str s), .val (.str ⟨#[c]⟩)] ∧ obs = [] ∧ rs = [.val (.str ⟨(Lib.trimLeftB s.data.toList c).toArray⟩)] ∧ obs2 = [] ∧ (c.toNat < 128 ∧ s.size ≤ 9223372036854775807)) ∨ (∃ s n, f = 110 ∧ xs = [.val (.str s)] ∧ obs = [] ∧ rs = [.val (.int .i64 n), .dead] ∧ obs2 = [] ∧ (s.size ≤ 18 ∧ Lib.atoi s.data.toList = some n)) ∨ (∃ s c, f = 132 ∧ xs = [.val (.str s), .val (.int .u8 c)] ∧ obs = [] ∧ rs = [.val (.int .i64 (Lib.indexByte s.data.toList c.toNat.toUInt8))] ∧ obs2 = []) ∨ False
noncomputable def G : Env := { P := Tryz.prog, ti := assoc tis, fn := assoc [(3, Tryz.f3), (4, Tryz.f4), (5, Tryz.f5), (6, Tryz.f6), (7, Tryz.f7), (8, Tryz.f8), (9, Tryz.f9), (10, Tryz.f10), (11, Tryz.f11), (12, Tryz.f12), (13, Tryz.f13), (14, Tryz.f14), (15, Tryz.f15), (16, Tryz.f16), (17, Tryz.f17), (18, Tryz.f18), (19, Tryz.f19), (20, Tryz.f20), (21, Tryz.f21), (22, Tryz.f22), (23, Tryz.f23), (24, Tryz.f24), (25, Tryz.f25), (26, Tryz.f26), (27, Tryz.f27), (28, Tryz.f28), (29, Tryz.f29), (30, Tryz.f30), (31, Tryz.f31), (32, Tryz.f32), (33, Tryz.f33), (34, Tryz.f34), (35, Tryz.f35), (36, Tryz.f36), (37, Tryz.f37), (38, Tryz.f38), (39, Tryz.f39), (40, Tryz.f40), (41, Tryz.f41), (42, Tryz.f42), (43, Tryz.f43), (44, Tryz.f44), (45, Tryz.f45), (46, Tryz.f46), (47, Tryz.f47), (48, Tryz.f48), (49, Tryz.f49), (50, Tryz.f50), (51, Tryz.f51), (52, Tryz.f52), (53, Tryz.f53), (54, Tryz.f54), (55, Tryz.f55), (56, Tryz.f56), (57, Tryz.f57), (58, Tryz.f58), (59, Tryz.f59), (60, Tryz.f60), (61, Tryz.f61), (62, Tryz.f62), (63, Tryz.f63), (64, Tryz.f64), (65, Tryz.f65), (66, Tryz.f66), (67, Tryz.f67), (68, Tryz.f68), (69, Tryz.f69), (70, Tryz.f70), (71, Tryz.f71), (72, Tryz.f72), (73, Tryz.f73), (74, Tryz.f74), (75, Tryz.f75), (76, Tryz.f76), (77, Tryz.f77), (78, Tryz.f78), (79, Tryz.f79), (80, Tryz.f80), (81, Tryz.f81), (82, Tryz.f82), (83, Tryz.f83), (84, Tryz.f84), (85, Tryz.f85), (86, Tryz.f86), (87, Tryz.f87), (89, Tryz.f89), (90, Tryz.f90), (91, Tryz.f91), (92, Tryz.f92), (93, Tryz.f93), (94, Tryz.f94), (95, Tryz.f95), (96, Tryz.f96), (105, Tryz.f105), (106, Tryz.f106), (107, Tryz.f107), (108, Tryz.f108), (109, Tryz.f109), (110, Tryz.f110), (111, Tryz.f111), (116, Tryz.f116), (117, Tryz.f117), (118, Tryz.f118), (124, Tryz.f124), (125, Tryz.f125), (126, Tryz.f126), (132, Tryz.f132), (136, Tryz.f136), (137, Tryz.f137), (138, Tryz.f138), (144, Tryz.f144)], hint := hintF, eff := effF, cut := cutF, orc := orcF, tab := {} }
theorem orc74 {s b : ByteArray} {r : Int} (h : strings_Compare.f s b = some r) : CE G 74 [.val (.str s), .val (.str b)] [] [.val (.int .i64 r)] [] := by
  cases h; exact CE.orc (.inl ⟨s, b, rfl, rfl, rfl, rfl, rfl⟩)
theorem orc87 {s b : ByteArray} {r : ByteArray} (h : strings_Trim.f s b = some r) : CE G 87 [.val (.str s), .val (.str b)] [] [.val (.str r)] [] := by
  unfold strings_Trim.f at h
  split at h
  · rename_i c_ hc_
    have e_ : b = ⟨#[c_]⟩ := by
      obtain ⟨⟨l_⟩⟩ := b
      simp only at hc_
      subst hc_
      rfl
    subst e_
    split at h
    · rename_i hc; cases h; exact CE.orc (.inr (.inl ⟨s, c_, rfl, rfl, rfl, rfl, rfl, hc⟩))
    · cases h
  · cases h
theorem orc94 {s b : ByteArray} {r : ByteArray} (h : strings_TrimLeft.f s b = some r) : CE G 94 [.val (.str s), .val (.str b)] [] [.val (.str r)] [] := by
  unfold strings_TrimLeft.f at h
  split at h
  · rename_i c_ hc_
    have e_ : b = ⟨#[c_]⟩ := by
      obtain ⟨⟨l_⟩⟩ := b
      simp only at hc_
      subst hc_
      rfl
    subst e_
    split at h
    · rename_i hc; cases h; exact CE.orc (.inr (.inr (.inl ⟨s, c_, rfl, rfl, rfl, rfl, rfl, hc⟩)))
    · cases h
  · cases h
theorem orc110 {s : ByteArray} {r : Int × Option Int} (h : strconv_Atoi.f s = some r) : CE G 110 [.val (.str s)] [] [.val (.int .i64 r.1), .dead] [] := by
  unfold strconv_Atoi.f at h; split at h
  · rename_i hc; split at h
    · rename_i n hn; cases h; exact CE.orc (.inr (.inr (.inr (.inl ⟨s, n, rfl, rfl, rfl, rfl, rfl, hc, hn⟩))))
    · cases h
  · cases h
theorem orc132 {s : ByteArray} {b : Int} {r : Int} (h : strings_IndexByte.f s b = some r) : CE G 132 [.val (.str s), .val (.int .u8 b)] [] [.val (.int .i64 r)] [] := by
  cases h; exact CE.orc (.inr (.inr (.inr (.inr (.inl ⟨s, b, rfl, rfl, rfl, rfl, rfl⟩)))))
theorem zz {p q : Prop} (h : q) (e : Hq q → p := by
  intro q_
  repeat ((conv => whnf); first
    | (refine And.intro ?_ ?_; (first | with_reducible exact zdraw | exact zside | exact szok_map sz69 _ | exact szok_map sz25 _ | exact szok_map sz94 _ | exact szok_map sz97 _ | exact szok_map sz29 _ | exact szok_map sz32 _ | exact szok_map sz81 _ | exact szok_map sz38 _ | exact szok_map sz77 _ | exact szok_map sz79 _ | exact szok_map sz43 _ | exact szok_map sz45 _ | exact szok_map sz115 _))
    | (apply Or.inl; refine And.intro zq ?_)
    | (apply Or.inr; refine And.intro zq ?_)
    | with_reducible refine z_bits ?_
    | refine z_wrap' ?_
    | refine z_wrap8 ?_
    | refine Exists.intro _ (And.intro (List.length_map _) ?_)
    | (refine z_byte ?_ ?_ ?_; (exact zside); (exact zside); intro b_ hb_; (try rw [hb_]); clear hb_ b_)
    | (refine Exists.intro _ (And.intro (nth69 _ _ ?_ ?_) ?_); (exact zside); (exact zside))
    | (refine Exists.intro _ (And.intro (nth25 _ _ ?_ ?_) ?_); (exact zside); (exact zside))
    | (refine Exists.intro _ (And.intro (nth94 _ _ ?_ ?_) ?_); (exact zside); (exact zside))
    | (refine Exists.intro _ (And.intro (nth97 _ _ ?_ ?_) ?_); (exact zside); (exact zside))
    | (refine Exists.intro _ (And.intro (nth29 _ _ ?_ ?_) ?_); (exact zside); (exact zside))
    | (refine Exists.intro _ (And.intro (nth32 _ _ ?_ ?_) ?_); (exact zside); (exact zside))
    | (refine Exists.intro _ (And.intro (nth81 _ _ ?_ ?_) ?_); (exact zside); (exact zside))
    | (refine Exists.intro _ (And.intro (nth38 _ _ ?_ ?_) ?_); (exact zside); (exact zside))
    | (refine Exists.intro _ (And.intro (nth77 _ _ ?_ ?_) ?_); (exact zside); (exact zside))
    | (refine Exists.intro _ (And.intro (nth79 _ _ ?_ ?_) ?_); (exact zside); (exact zside))
    | (refine Exists.intro _ (And.intro (nth43 _ _ ?_ ?_) ?_); (exact zside); (exact zside))
    | (refine Exists.intro _ (And.intro (nth45 _ _ ?_ ?_) ?_); (exact zside); (exact zside))
    | (refine Exists.intro _ (And.intro (nth115 _ _ ?_ ?_) ?_); (exact zside); (exact zside))
    | (refine Exists.intro _ (And.intro (nthR _ _ (0 : Int) _ ?_ ?_) ?_); (exact zside); (exact zside))
    | (refine Exists.intro _ (And.intro (nthR _ _ false _ ?_ ?_) ?_); (exact zside); (exact zside))
    | (refine Exists.intro _ (And.intro (nthR _ _ ByteArray.empty _ ?_ ?_) ?_); (exact zside); (exact zside))
    | refine z_max ?_
    | refine z_min ?_
    | refine z_mod ?_
    | refine z_bytes ?_
    | refine z_wrapk ?_
    | refine z_shr ?_)
  (try conv => whnf)
  exact q_.out) : p := e ⟨h⟩

end Go.Proofs.YtdpioibndfpjfaaGreatDoor.TFnExactMachOk
