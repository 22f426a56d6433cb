/- The walks of the functions that FnOps reaches, through the abstract machine. -/
import Derived.Test.YtchhkbkbbglgbaaGreatDoorAm18
import Derived.Test.YtchhkbkbbglgbaaGreatDoorFFnOps
import Derived.Test.YtchhkbkbbglgbaaGreatDoorProg
set_option maxHeartbeats 4000000
set_option maxRecDepth 100000
set_option linter.unusedVariables false
set_option linter.unusedSimpArgs false
namespace Go.Proofs.YtchhkbkbbglgbaaGreatDoor.TFnOps
open Go Go.RowKit Go.Proofs Go.Proofs.YtchhkbkbbglgbaaGreatDoorW.AM Go.Proofs.YtchhkbkbbglgbaaGreatDoor.QFnOps Go.Proofs.YtchhkbkbbglgbaaGreatDoorW.PrintWords Go.Proofs.YtchhkbkbbglgbaaGreatDoorW.Pgs
variable {m_ : Int}
def e29 (s : S29) : VV := .agg [.int .i64 s.f0, .int .i64 s.f1, .str s.f2]
theorem sz29 (s : S29) : (e29 s).cells.length = 3 := rfl
theorem nth29 (l : List S29) (i : Int) (h0 : 0 ≤ i) (h1 : i < (l.length : Int)) : (l.map e29)[i.toNat]? = some (.agg [.int .i64 (rd_T29 l i).f0, .int .i64 (rd_T29 l i).f1, .str (rd_T29 l i).f2]) := nthM l e29 z29 i h0 h1
mutual
def e57 : S57 → VV
 | ⟨f0, f1, f2, f3, f4⟩ => .agg [.int .i64 f0, .int .i64 f1, .str f2, .bool f3, .row (e57L f4)]
def e57L : List S57 → List VV
 | [] => []
 | x :: xs => e57 x :: e57L xs
end
theorem e57L_eq : ∀ l, e57L l = l.map e57
 | [] => by rw [e57L]; rfl
 | x :: xs => by rw [e57L, e57L_eq xs]; rfl
@[simp] theorem e57_eq (s : S57) : e57 s = .agg [.int .i64 s.f0, .int .i64 s.f1, .str s.f2, .bool s.f3, .row ((s.f4).map e57)] := by cases s; simp only [e57, e57L_eq]
theorem sz57 (s : S57) : (e57 s).cells.length = 5 := by rw [e57_eq]; rfl
theorem nth57 (l : List S57) (i : Int) (h0 : 0 ≤ i) (h1 : i < (l.length : Int)) : (l.map e57)[i.toNat]? = some (.agg [.int .i64 (rd_T57 l i).f0, .int .i64 (rd_T57 l i).f1, .str (rd_T57 l i).f2, .bool (rd_T57 l i).f3, .row (((rd_T57 l i).f4).map e57)]) := by rw [nthM l e57 z57 i h0 h1, e57_eq]; rfl
def e63 (s : S63) : VV := .agg [.row ((s.f0).map VV.str), .row ((s.f1).map VV.str), .row ((s.f2).map e29), .row ((s.f3).map e29)]
theorem sz63 (s : S63) : (e63 s).cells.length = 4 := rfl
theorem nth63 (l : List S63) (i : Int) (h0 : 0 ≤ i) (h1 : i < (l.length : Int)) : (l.map e63)[i.toNat]? = some (.agg [.row (((rd_T63 l i).f0).map VV.str), .row (((rd_T63 l i).f1).map VV.str), .row (((rd_T63 l i).f2).map e29), .row (((rd_T63 l i).f3).map e29)]) := nthM l e63 z63 i h0 h1
mutual
def e91 : S91 → VV
 | ⟨f0, f1, f2, f3⟩ => .agg [.int .i64 f0, .int .i64 f1, .str f2, .row (e91L f3)]
def e91L : List S91 → List VV
 | [] => []
 | x :: xs => e91 x :: e91L xs
end
theorem e91L_eq : ∀ l, e91L l = l.map e91
 | [] => by rw [e91L]; rfl
 | x :: xs => by rw [e91L, e91L_eq xs]; rfl
@[simp] theorem e91_eq (s : S91) : e91 s = .agg [.int .i64 s.f0, .int .i64 s.f1, .str s.f2, .row ((s.f3).map e91)] := by cases s; simp only [e91, e91L_eq]
theorem sz91 (s : S91) : (e91 s).cells.length = 4 := by rw [e91_eq]; rfl
theorem nth91 (l : List S91) (i : Int) (h0 : 0 ≤ i) (h1 : i < (l.length : Int)) : (l.map e91)[i.toNat]? = some (.agg [.int .i64 (rd_T91 l i).f0, .int .i64 (rd_T91 l i).f1, .str (rd_T91 l i).f2, .row (((rd_T91 l i).f3).map e91)]) := by rw [nthM l e91 z91 i h0 h1, e91_eq]; rfl
def e93 (s : S93) : VV := .agg [.int .i64 s.f0, .int .i64 s.f1, .int .i64 s.f2, .str s.f3, .row ((s.f4).map e91), .int .i64 s.f5, .int .i64 s.f6, .str s.f7, .row ((s.f8).map e91)]
theorem sz93 (s : S93) : (e93 s).cells.length = 9 := rfl
theorem nth93 (l : List S93) (i : Int) (h0 : 0 ≤ i) (h1 : i < (l.length : Int)) : (l.map e93)[i.toNat]? = some (.agg [.int .i64 (rd_T93 l i).f0, .int .i64 (rd_T93 l i).f1, .int .i64 (rd_T93 l i).f2, .str (rd_T93 l i).f3, .row (((rd_T93 l i).f4).map e91), .int .i64 (rd_T93 l i).f5, .int .i64 (rd_T93 l i).f6, .str (rd_T93 l i).f7, .row (((rd_T93 l i).f8).map e91)]) := nthM l e93 z93 i h0 h1
def e126 (s : S126) : VV := .agg [.int .i64 s.f0, .str s.f1, .int .i64 s.f2, .int .i64 s.f3]
theorem sz126 (s : S126) : (e126 s).cells.length = 4 := rfl
theorem nth126 (l : List S126) (i : Int) (h0 : 0 ≤ i) (h1 : i < (l.length : Int)) : (l.map e126)[i.toNat]? = some (.agg [.int .i64 (rd_T126 l i).f0, .str (rd_T126 l i).f1, .int .i64 (rd_T126 l i).f2, .int .i64 (rd_T126 l i).f3]) := nthM l e126 z126 i h0 h1
def tis : List (Nat × TI) := [(3, ⟨false, 1, 8, [.int .i64 (0)], none, [], some .i64, false, false⟩), (4, ⟨false, 1, 1, [.bool false], none, [], none, false, true⟩), (5, ⟨false, 1, 1, [.int .u8 (0)], none, [], some .u8, false, false⟩), (9, ⟨false, 1, 16, [.string ⟨#[]⟩], none, [], none, true, false⟩), (21, ⟨false, 1, 4, [.int .i32 (0)], none, [], some .i32, false, false⟩), (22, ⟨false, 1, 24, [.slice none 0 0], some 5, [], none, false, false⟩), (24, ⟨false, 1, 24, [.slice none 0 0], some 29, [], none, false, false⟩), (29, ⟨true, 3, 32, [.int .i64 (0), .int .i64 (0), .string ⟨#[]⟩], none, [(0, 3, 1), (1, 3, 1), (2, 9, 1)], none, false, false⟩), (38, ⟨false, 1, 8, [.nilFunc], none, [], none, false, false⟩), (43, ⟨false, 1, 24, [.slice none 0 0], some 9, [], none, false, false⟩), (45, ⟨false, 1, 24, [.slice none 0 0], some 3, [], none, false, false⟩), (48, ⟨true, 3, 40, [.slice none 0 0, .int .i64 (0), .int .i64 (0)], none, [(0, 22, 1), (1, 3, 1), (2, 3, 1)], none, false, false⟩), (55, ⟨false, 1, 24, [.slice none 0 0], some 57, [], none, false, false⟩), (57, ⟨true, 5, 64, [.int .i64 (0), .int .i64 (0), .string ⟨#[]⟩, .bool false, .slice none 0 0], none, [(0, 3, 1), (1, 3, 1), (2, 9, 1), (3, 4, 1), (4, 55, 1)], none, false, false⟩), (63, ⟨true, 4, 96, [.slice none 0 0, .slice none 0 0, .slice none 0 0, .slice none 0 0], none, [(0, 43, 1), (1, 43, 1), (2, 24, 1), (3, 24, 1)], none, false, false⟩), (66, ⟨false, 1, 24, [.slice none 0 0], some 93, [], none, false, false⟩), (69, ⟨false, 1, 8, [.int .u64 (0)], none, [], some .u64, false, false⟩), (72, ⟨true, 3, 32, [.string ⟨#[]⟩, .int .i64 (0), .bool false], none, [(0, 9, 1), (1, 3, 1), (2, 4, 1)], none, false, false⟩), (88, ⟨true, 3, 72, [.slice none 0 0, .slice none 0 0, .slice none 0 0], none, [(0, 43, 1), (1, 43, 1), (2, 24, 1)], none, false, false⟩), (89, ⟨false, 1, 24, [.slice none 0 0], some 91, [], none, false, false⟩), (91, ⟨true, 4, 56, [.int .i64 (0), .int .i64 (0), .string ⟨#[]⟩, .slice none 0 0], none, [(0, 3, 1), (1, 3, 1), (2, 9, 1), (3, 89, 1)], none, false, false⟩), (93, ⟨true, 9, 120, [.int .i64 (0), .int .i64 (0), .int .i64 (0), .string ⟨#[]⟩, .slice none 0 0, .int .i64 (0), .int .i64 (0), .string ⟨#[]⟩, .slice none 0 0], none, [(0, 3, 1), (1, 91, 4), (5, 91, 4)], none, false, false⟩), (102, ⟨true, 2, 24, [.string ⟨#[]⟩, .bool false], none, [(0, 9, 1), (1, 4, 1)], none, false, false⟩), (119, ⟨false, 1, 24, [.slice none 0 0], some 126, [], none, false, false⟩), (124, ⟨true, 8, 104, [.slice none 0 0, .int .i64 (0), .int .i64 (0), .bool false, .int .i64 (0), .int .i64 (0), .string ⟨#[]⟩, .slice none 0 0], none, [(0, 119, 1), (1, 3, 1), (2, 3, 1), (3, 4, 1), (4, 91, 4)], none, false, false⟩), (126, ⟨true, 4, 40, [.int .i64 (0), .string ⟨#[]⟩, .int .i64 (0), .int .i64 (0)], none, [(0, 3, 1), (1, 9, 1), (2, 3, 1), (3, 3, 1)], none, false, false⟩), (171, ⟨false, 1, 24, [.slice none 0 0], some 4, [], none, false, false⟩), (173, ⟨false, 1, 24, [.slice none 0 0], some 43, [], none, false, false⟩), (174, ⟨false, 1, 24, [.slice none 0 0], some 45, [], none, false, false⟩)]
def hintF (f r i : Nat) : Nat := bif Nat.beq f 11 && (Nat.beq r 3 && Nat.beq i 3) then 1 else bif Nat.beq f 11 && (Nat.beq r 9 && Nat.beq i 3) then 4 else bif Nat.beq f 11 && (Nat.beq r 11 && Nat.beq i 3) then 4 else bif Nat.beq f 11 && (Nat.beq r 13 && Nat.beq i 0) then 1 else bif Nat.beq f 11 && (Nat.beq r 18 && Nat.beq i 3) then 1 else bif Nat.beq f 25 && (Nat.beq r 2 && Nat.beq i 3) then 8 else bif Nat.beq f 25 && (Nat.beq r 2 && Nat.beq i 5) then 7 else bif Nat.beq f 25 && (Nat.beq r 2 && Nat.beq i 6) then 7 else bif Nat.beq f 25 && (Nat.beq r 2 && Nat.beq i 8) then 7 else bif Nat.beq f 25 && (Nat.beq r 2 && Nat.beq i 9) then 7 else bif Nat.beq f 32 && (Nat.beq r 1 && Nat.beq i 1) then 1 else bif Nat.beq f 37 && (Nat.beq r 1 && Nat.beq i 1) then 1 else bif Nat.beq f 41 && (Nat.beq r 5 && Nat.beq i 2) then 10 else bif Nat.beq f 41 && (Nat.beq r 5 && Nat.beq i 3) then 9 else bif Nat.beq f 41 && (Nat.beq r 6 && Nat.beq i 2) then 10 else bif Nat.beq f 41 && (Nat.beq r 6 && Nat.beq i 3) then 9 else bif Nat.beq f 41 && (Nat.beq r 22 && Nat.beq i 10) then 9 else bif Nat.beq f 41 && (Nat.beq r 23 && Nat.beq i 0) then 11 else bif Nat.beq f 41 && (Nat.beq r 25 && Nat.beq i 0) then 11 else bif Nat.beq f 42 && (Nat.beq r 2 && Nat.beq i 1) then 1 else bif Nat.beq f 45 && (Nat.beq r 7 && Nat.beq i 0) then 1 else bif Nat.beq f 53 && (Nat.beq r 1 && Nat.beq i 2) then 1 else bif Nat.beq f 53 && (Nat.beq r 1 && Nat.beq i 3) then 1 else bif Nat.beq f 53 && (Nat.beq r 5 && Nat.beq i 5) then 1 else bif Nat.beq f 53 && (Nat.beq r 5 && Nat.beq i 6) then 1 else bif Nat.beq f 60 && (Nat.beq r 6 && Nat.beq i 0) then 1 else bif Nat.beq f 62 && (Nat.beq r 9 && Nat.beq i 0) then 1 else bif Nat.beq f 83 && (Nat.beq r 3 && Nat.beq i 1) then 1 else bif Nat.beq f 83 && (Nat.beq r 11 && Nat.beq i 2) then 1 else bif Nat.beq f 83 && (Nat.beq r 13 && Nat.beq i 2) then 1 else bif Nat.beq f 83 && (Nat.beq r 16 && Nat.beq i 6) then 1 else bif Nat.beq f 85 && (Nat.beq r 9 && Nat.beq i 1) then 4 else bif Nat.beq f 85 && (Nat.beq r 9 && Nat.beq i 2) then 4 else bif Nat.beq f 87 && (Nat.beq r 1 && Nat.beq i 1) then 1 else bif Nat.beq f 88 && (Nat.beq r 10 && Nat.beq i 0) then 1 else bif Nat.beq f 90 && (Nat.beq r 13 && Nat.beq i 2) then 4 else bif Nat.beq f 101 && (Nat.beq r 8 && Nat.beq i 5) then 1 else bif Nat.beq f 108 && (Nat.beq r 1 && Nat.beq i 0) then 4 else bif Nat.beq f 112 && (Nat.beq r 1 && Nat.beq i 0) then 10 else bif Nat.beq f 112 && (Nat.beq r 6 && Nat.beq i 1) then 7 else bif Nat.beq f 112 && (Nat.beq r 6 && Nat.beq i 3) then 8 else bif Nat.beq f 112 && (Nat.beq r 8 && Nat.beq i 0) then 11 else bif Nat.beq f 114 && (Nat.beq r 12 && Nat.beq i 3) then 4 else bif Nat.beq f 114 && (Nat.beq r 12 && Nat.beq i 4) then 4 else bif Nat.beq f 115 && (Nat.beq r 1 && Nat.beq i 4) then 9 else bif Nat.beq f 115 && (Nat.beq r 900000 && Nat.beq i 0) then 9 else bif Nat.beq f 117 && (Nat.beq r 6 && Nat.beq i 3) then 4 else bif Nat.beq f 137 && (Nat.beq r 20 && Nat.beq i 2) then 4 else bif Nat.beq f 147 && (Nat.beq r 6 && Nat.beq i 3) then 4 else bif Nat.beq f 147 && (Nat.beq r 9 && Nat.beq i 1) then 7 else bif Nat.beq f 147 && (Nat.beq r 9 && Nat.beq i 3) then 8 else bif Nat.beq f 147 && (Nat.beq r 10 && Nat.beq i 0) then 11 else bif Nat.beq f 148 && (Nat.beq r 3 && Nat.beq i 0) then 10 else bif Nat.beq f 148 && (Nat.beq r 7 && Nat.beq i 1) then 7 else bif Nat.beq f 148 && (Nat.beq r 7 && Nat.beq i 3) then 8 else bif Nat.beq f 148 && (Nat.beq r 8 && Nat.beq i 0) then 11 else bif Nat.beq f 148 && (Nat.beq r 18 && Nat.beq i 2) then 4 else bif Nat.beq f 148 && (Nat.beq r 19 && Nat.beq i 2) then 4 else bif Nat.beq f 148 && (Nat.beq r 19 && Nat.beq i 3) then 4 else bif Nat.beq f 149 && (Nat.beq r 6 && Nat.beq i 1) then 1 else bif Nat.beq f 151 && (Nat.beq r 9 && Nat.beq i 4) then 4 else bif Nat.beq f 151 && (Nat.beq r 9 && Nat.beq i 5) then 4 else bif Nat.beq f 152 && (Nat.beq r 4 && Nat.beq i 2) then 4 else bif Nat.beq f 152 && (Nat.beq r 4 && Nat.beq i 3) then 4 else bif Nat.beq f 153 && (Nat.beq r 5 && Nat.beq i 2) then 4 else bif Nat.beq f 153 && (Nat.beq r 5 && Nat.beq i 3) then 4 else bif Nat.beq f 153 && (Nat.beq r 8 && Nat.beq i 2) then 4 else bif Nat.beq f 153 && (Nat.beq r 8 && Nat.beq i 3) then 4 else bif Nat.beq f 154 && (Nat.beq r 1 && Nat.beq i 0) then 4 else bif Nat.beq f 154 && (Nat.beq r 1 && Nat.beq i 1) then 4 else bif Nat.beq f 154 && (Nat.beq r 1 && Nat.beq i 2) then 4 else bif Nat.beq f 154 && (Nat.beq r 1 && Nat.beq i 3) then 4 else bif Nat.beq f 154 && (Nat.beq r 1 && Nat.beq i 4) then 4 else bif Nat.beq f 154 && (Nat.beq r 1 && Nat.beq i 5) then 4 else bif Nat.beq f 154 && (Nat.beq r 1 && Nat.beq i 6) then 4 else bif Nat.beq f 154 && (Nat.beq r 2 && Nat.beq i 0) then 4 else bif Nat.beq f 154 && (Nat.beq r 2 && Nat.beq i 1) then 4 else bif Nat.beq f 154 && (Nat.beq r 2 && Nat.beq i 2) then 4 else bif Nat.beq f 154 && (Nat.beq r 2 && Nat.beq i 3) then 4 else bif Nat.beq f 154 && (Nat.beq r 2 && Nat.beq i 4) then 4 else bif Nat.beq f 154 && (Nat.beq r 2 && Nat.beq i 5) then 4 else bif Nat.beq f 154 && (Nat.beq r 2 && Nat.beq i 6) then 4 else bif Nat.beq f 154 && (Nat.beq r 12 && Nat.beq i 10) then 4 else bif Nat.beq f 154 && (Nat.beq r 14 && Nat.beq i 1) then 4 else bif Nat.beq f 154 && (Nat.beq r 14 && Nat.beq i 2) then 4 else bif Nat.beq f 158 && (Nat.beq r 21 && Nat.beq i 2) then 4 else bif Nat.beq f 158 && (Nat.beq r 21 && Nat.beq i 3) then 4 else 0
def cutF (f n : Nat) : Bool := Nat.beq f 3 && (Nat.beq n 35 || Nat.beq n 42 || Nat.beq n 200006 || Nat.beq n 200009) || Nat.beq f 8 && (Nat.beq n 200002) || Nat.beq f 10 && (Nat.beq n 25 || Nat.beq n 100000 || Nat.beq n 200020) || Nat.beq f 16 && (Nat.beq n 62 || Nat.beq n 75 || Nat.beq n 89 || Nat.beq n 106 || Nat.beq n 200002) || Nat.beq f 19 && (Nat.beq n 28 || Nat.beq n 46 || Nat.beq n 65 || Nat.beq n 91) || Nat.beq f 20 && (Nat.beq n 16) || Nat.beq f 21 && (Nat.beq n 10) || Nat.beq f 52 && (Nat.beq n 48 || Nat.beq n 200006 || Nat.beq n 200009 || Nat.beq n 200019 || Nat.beq n 200024) || Nat.beq f 55 && (Nat.beq n 24) || Nat.beq f 57 && (Nat.beq n 200004 || Nat.beq n 200009) || Nat.beq f 58 && (Nat.beq n 35 || Nat.beq n 100000 || Nat.beq n 200008) || Nat.beq f 62 && (Nat.beq n 100000) || Nat.beq f 72 && (Nat.beq n 200005 || Nat.beq n 200006) || Nat.beq f 73 && (Nat.beq n 26 || Nat.beq n 49 || Nat.beq n 200001 || Nat.beq n 200006) || Nat.beq f 74 && (Nat.beq n 10 || Nat.beq n 200010) || Nat.beq f 75 && (Nat.beq n 26 || Nat.beq n 200004) || Nat.beq f 76 && (Nat.beq n 17 || Nat.beq n 100000) || Nat.beq f 83 && (Nat.beq n 200006) || Nat.beq f 88 && (Nat.beq n 100000) || Nat.beq f 100 && (Nat.beq n 44 || Nat.beq n 200001) || Nat.beq f 101 && (Nat.beq n 100000) || Nat.beq f 102 && (Nat.beq n 8) || Nat.beq f 109 && (Nat.beq n 200013) || Nat.beq f 112 && (Nat.beq n 16 || Nat.beq n 100000 || Nat.beq n 200003) || Nat.beq f 114 && (Nat.beq n 24 || Nat.beq n 100000 || Nat.beq n 200002) || Nat.beq f 118 && (Nat.beq n 200001) || Nat.beq f 126 && (Nat.beq n 10 || Nat.beq n 23 || Nat.beq n 45 || Nat.beq n 70) || Nat.beq f 130 && (Nat.beq n 100000 || Nat.beq n 200004) || Nat.beq f 133 && (Nat.beq n 200011) || Nat.beq f 137 && (Nat.beq n 100000 || Nat.beq n 200008) || Nat.beq f 141 && (Nat.beq n 13 || Nat.beq n 98 || Nat.beq n 120 || Nat.beq n 148 || Nat.beq n 200007 || Nat.beq n 200011 || Nat.beq n 200021) || Nat.beq f 145 && (Nat.beq n 46 || Nat.beq n 91 || Nat.beq n 100000 || Nat.beq n 200004 || Nat.beq n 200005 || Nat.beq n 200008 || Nat.beq n 200013 || Nat.beq n 200021) || Nat.beq f 147 && (Nat.beq n 200007) || Nat.beq f 148 && (Nat.beq n 26 || Nat.beq n 30 || Nat.beq n 100001 || Nat.beq n 200004) || Nat.beq f 149 && (Nat.beq n 17 || Nat.beq n 20 || Nat.beq n 200002) || Nat.beq f 150 && (Nat.beq n 20 || Nat.beq n 200002) || Nat.beq f 154 && (Nat.beq n 100002 || Nat.beq n 200013) || Nat.beq f 155 && (Nat.beq n 70 || Nat.beq n 200013) || Nat.beq f 157 && (Nat.beq n 13 || Nat.beq n 100000 || Nat.beq n 200010)
def effF (f : Nat) : Bool := Nat.beq f 11 || Nat.beq f 12 || Nat.beq f 14 || Nat.beq f 15 || Nat.beq f 17 || Nat.beq f 25 || Nat.beq f 26 || Nat.beq f 27 || Nat.beq f 28 || Nat.beq f 33 || Nat.beq f 42 || Nat.beq f 45 || Nat.beq f 54 || Nat.beq f 55 || Nat.beq f 56 || Nat.beq f 58 || Nat.beq f 59 || Nat.beq f 60 || Nat.beq f 62 || Nat.beq f 63 || Nat.beq f 77 || Nat.beq f 78 || Nat.beq f 79 || Nat.beq f 80 || Nat.beq f 81 || Nat.beq f 84 || Nat.beq f 85 || Nat.beq f 88 || Nat.beq f 89 || Nat.beq f 90 || Nat.beq f 102 || Nat.beq f 103 || Nat.beq f 104 || Nat.beq f 110 || Nat.beq f 111 || Nat.beq f 112 || Nat.beq f 113 || Nat.beq f 114 || Nat.beq f 115 || Nat.beq f 116 || Nat.beq f 117 || Nat.beq f 118 || Nat.beq f 135 || Nat.beq f 136 || Nat.beq f 137 || Nat.beq f 138 || Nat.beq f 139 || Nat.beq f 141 || Nat.beq f 146 || Nat.beq f 147 || Nat.beq f 148 || Nat.beq f 149 || Nat.beq f 150 || Nat.beq f 151 || Nat.beq f 152 || Nat.beq f 153 || Nat.beq f 154 || Nat.beq f 155 || Nat.beq f 157 || Nat.beq f 158
def farF (f r : Nat) : List Nat := bif Nat.beq f 112 && Nat.beq r 6 then [529] else bif Nat.beq f 147 && Nat.beq r 9 then [3093] else bif Nat.beq f 148 && Nat.beq r 7 then [1553] else []
def tabF (m : Int) (b j : Nat) : Option Value := bif Nat.beq b 0 then (Lib.pow10Tab[j]?).map (Value.int .u64) else none
def tabZ (b : Nat) : Option Nat := bif Nat.beq b 0 then some 20 else none
def orcF (f : FuncId) (xs : List A0) (obs : List Ob) (rs : List A0) (obs2 : List Ob) : Prop := (∃ s, f = 22 ∧ xs = [.val (.int .i64 s)] ∧ obs = [] ∧ rs = [.val (.str ⟨(Lib.itoa s).toArray⟩)] ∧ obs2 = [] ∧ (-9223372036854775808 ≤ s ∧ s ≤ 9223372036854775807)) ∨ (∃ s c, f = 38 ∧ xs = [.val (.str s), .val (.str ⟨#[c]⟩)] ∧ obs = [] ∧ rs = [.val (.str ⟨(Lib.trimRightB s.data.toList c).toArray⟩)] ∧ obs2 = [] ∧ (c.toNat < 128 ∧ s.size ≤ 9223372036854775807)) ∨ (∃ s c, f = 120 ∧ xs = [.val (.str s), .val (.int .u8 c)] ∧ obs = [] ∧ rs = [.val (.int .i64 (Lib.indexByte s.data.toList c.toNat.toUInt8))] ∧ obs2 = []) ∨ False
noncomputable def G (m_ : Int) : Env := { P := Tryz.prog, ti := assoc tis, fn := assoc [(3, Tryz.f3), (4, Tryz.f4), (5, Tryz.f5), (6, Tryz.f6), (7, Tryz.f7), (8, Tryz.f8), (9, Tryz.f9), (10, Tryz.f10), (11, Tryz.f11), (12, Tryz.f12), (13, Tryz.f13), (14, Tryz.f14), (15, Tryz.f15), (16, Tryz.f16), (17, Tryz.f17), (18, Tryz.f18), (19, Tryz.f19), (20, Tryz.f20), (21, Tryz.f21), (22, Tryz.f22), (23, Tryz.f23), (24, Tryz.f24), (25, Tryz.f25), (26, Tryz.f26), (27, Tryz.f27), (28, Tryz.f28), (29, Tryz.f29), (30, Tryz.f30), (31, Tryz.f31), (32, Tryz.f32), (33, Tryz.f33), (34, Tryz.f34), (35, Tryz.f35), (36, Tryz.f36), (37, Tryz.f37), (38, Tryz.f38), (40, Tryz.f40), (41, Tryz.f41), (42, Tryz.f42), (43, Tryz.f43), (44, Tryz.f44), (45, Tryz.f45), (46, Tryz.f46), (52, Tryz.f52), (53, Tryz.f53), (54, Tryz.f54), (55, Tryz.f55), (56, Tryz.f56), (57, Tryz.f57), (58, Tryz.f58), (59, Tryz.f59), (60, Tryz.f60), (61, Tryz.f61), (62, Tryz.f62), (63, Tryz.f63), (64, Tryz.f64), (72, Tryz.f72), (73, Tryz.f73), (74, Tryz.f74), (75, Tryz.f75), (76, Tryz.f76), (77, Tryz.f77), (78, Tryz.f78), (79, Tryz.f79), (80, Tryz.f80), (81, Tryz.f81), (82, Tryz.f82), (83, Tryz.f83), (84, Tryz.f84), (85, Tryz.f85), (86, Tryz.f86), (87, Tryz.f87), (88, Tryz.f88), (89, Tryz.f89), (90, Tryz.f90), (99, Tryz.f99), (100, Tryz.f100), (101, Tryz.f101), (102, Tryz.f102), (103, Tryz.f103), (104, Tryz.f104), (105, Tryz.f105), (106, Tryz.f106), (107, Tryz.f107), (108, Tryz.f108), (109, Tryz.f109), (110, Tryz.f110), (111, Tryz.f111), (112, Tryz.f112), (113, Tryz.f113), (114, Tryz.f114), (115, Tryz.f115), (116, Tryz.f116), (117, Tryz.f117), (118, Tryz.f118), (120, Tryz.f120), (126, Tryz.f126), (127, Tryz.f127), (128, Tryz.f128), (129, Tryz.f129), (130, Tryz.f130), (131, Tryz.f131), (132, Tryz.f132), (133, Tryz.f133), (134, Tryz.f134), (135, Tryz.f135), (136, Tryz.f136), (137, Tryz.f137), (138, Tryz.f138), (139, Tryz.f139), (140, Tryz.f140), (141, Tryz.f141), (143, Tryz.f143), (144, Tryz.f144), (145, Tryz.f145), (146, Tryz.f146), (147, Tryz.f147), (148, Tryz.f148), (149, Tryz.f149), (150, Tryz.f150), (151, Tryz.f151), (152, Tryz.f152), (153, Tryz.f153), (154, Tryz.f154), (155, Tryz.f155), (157, Tryz.f157), (158, Tryz.f158)], hint := hintF, eff := effF, cut := cutF, orc := orcF, tab := { c := tabF m_, z := tabZ }, far := farF }
theorem orc22 {s : Int} {r : ByteArray} (h : strconv_Itoa.f s = some r) : CE (G m_) 22 [.val (.int .i64 s)] [] [.val (.str r)] [] := by
 unfold strconv_Itoa.f at h; split at h
 ·rename_i hc; cases h; exact CE.orc (.inl ⟨s, rfl, rfl, rfl, rfl, rfl, hc⟩)
 ·cases h
theorem orc38 {s b r : ByteArray} (h : strings_TrimRight.f s b = some r) : CE (G m_) 38 [.val (.str s), .val (.str b)] [] [.val (.str r)] [] := by
 unfold strings_TrimRight.f at h
 split at h
 ·rename_i c_ hc_
  have e_ : b = ⟨#[c_]⟩ := by
   obtain ⟨⟨l_⟩⟩ := b
   simp only at hc_
   subst hc_
   rfl
  subst e_
  split at h
  ·rename_i hc; cases h; exact CE.orc (.inr (.inl ⟨s, c_, rfl, rfl, rfl, rfl, rfl, hc⟩))
  ·cases h
 ·cases h
theorem orc120 {s : ByteArray} {b r : Int} (h : strings_IndexByte.f s b = some r) : CE (G m_) 120 [.val (.str s), .val (.int .u8 b)] [] [.val (.int .i64 r)] [] := by
 cases h; exact CE.orc (.inr (.inr (.inl ⟨s, b, rfl, rfl, rfl, rfl, rfl⟩)))
theorem zz {p q : Prop} (h : q) (e : Hq q → p := by
 intro q_
 repeat ((conv => whnf); first
  | (refine And.intro ?_ ?_; (first | with_reducible exact zdraw | exact zside | exact szok_map sz29 _ | exact szok_map sz57 _ | exact szok_map sz63 _ | exact szok_map sz91 _ | exact szok_map sz93 _ | exact szok_map sz126 _))
  | (apply Or.inl; refine And.intro zq ?_)
  | (apply Or.inr; refine And.intro zq ?_)
  | with_reducible refine z_bits ?_
  | refine z_wrap' ?_
  | refine z_wrap8 ?_
  | refine Exists.intro _ (And.intro (List.length_map _) ?_)
  | (refine z_byte ?_ ?_ ?_; (exact zside); (exact zside); intro b_ hb_; (try rw [hb_]); clear hb_ b_)
  | (refine Exists.intro _ (And.intro (nth29 _ _ ?_ ?_) ?_); (exact zside); (exact zside))
  | (refine Exists.intro _ (And.intro (nth57 _ _ ?_ ?_) ?_); (exact zside); (exact zside))
  | (refine Exists.intro _ (And.intro (nth63 _ _ ?_ ?_) ?_); (exact zside); (exact zside))
  | (refine Exists.intro _ (And.intro (nth91 _ _ ?_ ?_) ?_); (exact zside); (exact zside))
  | (refine Exists.intro _ (And.intro (nth93 _ _ ?_ ?_) ?_); (exact zside); (exact zside))
  | (refine Exists.intro _ (And.intro (nth126 _ _ ?_ ?_) ?_); (exact zside); (exact zside))
  | (refine Exists.intro _ (And.intro (nthR _ _ (0 : Int) _ ?_ ?_) ?_); (exact zside); (exact zside))
  | (refine Exists.intro _ (And.intro (nthR _ _ false _ ?_ ?_) ?_); (exact zside); (exact zside))
  | (refine Exists.intro _ (And.intro (nthR _ _ ByteArray.empty _ ?_ ?_) ?_); (exact zside); (exact zside))
  | (refine Exists.intro _ (And.intro (nthR _ (eL _) [] _ ?_ ?_) ?_); (exact zside); (exact zside))
  | refine z_max ?_
  | refine z_min ?_
  | refine z_mod ?_
  | refine z_bytes ?_
  | refine z_wrapk ?_
  | refine z_shr ?_)
 (try conv => whnf)
 exact q_.out) : p := e ⟨h⟩
theorem zl {p q : Prop} (h : q) (e : Hq q → p := by
 intro q_
 repeat ((conv => whnf); first
  | (refine And.intro ?_ ?_; (first | with_reducible exact zdraw | exact zside | exact szok_map sz29 _ | exact szok_map sz57 _ | exact szok_map sz63 _ | exact szok_map sz91 _ | exact szok_map sz93 _ | exact szok_map sz126 _))
  | (apply Or.inl; refine And.intro zq ?_)
  | (apply Or.inr; refine And.intro zq ?_)
  | with_reducible refine z_bits ?_
  | refine z_wrap' ?_
  | refine z_wrap8 ?_
  | refine Exists.intro _ (And.intro (List.length_map _) ?_)
  | (refine z_byte ?_ ?_ ?_; (exact zside); (exact zside); intro b_ hb_; (try rw [hb_]); clear hb_ b_)
  | (refine Exists.intro _ (And.intro (nth29 _ _ ?_ ?_) ?_); (exact zside); (exact zside))
  | (refine Exists.intro _ (And.intro (nth57 _ _ ?_ ?_) ?_); (exact zside); (exact zside))
  | (refine Exists.intro _ (And.intro (nth63 _ _ ?_ ?_) ?_); (exact zside); (exact zside))
  | (refine Exists.intro _ (And.intro (nth91 _ _ ?_ ?_) ?_); (exact zside); (exact zside))
  | (refine Exists.intro _ (And.intro (nth93 _ _ ?_ ?_) ?_); (exact zside); (exact zside))
  | (refine Exists.intro _ (And.intro (nth126 _ _ ?_ ?_) ?_); (exact zside); (exact zside))
  | (refine Exists.intro _ (And.intro (nthR _ _ (0 : Int) _ ?_ ?_) ?_); (exact zside); (exact zside))
  | (refine Exists.intro _ (And.intro (nthR _ _ false _ ?_ ?_) ?_); (exact zside); (exact zside))
  | (refine Exists.intro _ (And.intro (nthR _ _ ByteArray.empty _ ?_ ?_) ?_); (exact zside); (exact zside))
  | (refine Exists.intro _ (And.intro (nthR _ (eL _) [] _ ?_ ?_) ?_); (exact zside); (exact zside))
  | refine z_max ?_
  | refine z_min ?_
  | refine z_mod ?_
  | refine z_bytes ?_
  | refine z_wrapk ?_
  | refine z_shr ?_)
 (try conv => whnf)
 try (apply Or.inl; refine zK ?_)
 exact q_.out) : p := e ⟨h⟩
theorem zr {p q : Prop} (h : q) (e : Hq q → p := by
 intro q_
 repeat ((conv => whnf); first
  | (refine And.intro ?_ ?_; (first | with_reducible exact zdraw | exact zside | exact szok_map sz29 _ | exact szok_map sz57 _ | exact szok_map sz63 _ | exact szok_map sz91 _ | exact szok_map sz93 _ | exact szok_map sz126 _))
  | (apply Or.inl; refine And.intro zq ?_)
  | (apply Or.inr; refine And.intro zq ?_)
  | with_reducible refine z_bits ?_
  | refine z_wrap' ?_
  | refine z_wrap8 ?_
  | refine Exists.intro _ (And.intro (List.length_map _) ?_)
  | (refine z_byte ?_ ?_ ?_; (exact zside); (exact zside); intro b_ hb_; (try rw [hb_]); clear hb_ b_)
  | (refine Exists.intro _ (And.intro (nth29 _ _ ?_ ?_) ?_); (exact zside); (exact zside))
  | (refine Exists.intro _ (And.intro (nth57 _ _ ?_ ?_) ?_); (exact zside); (exact zside))
  | (refine Exists.intro _ (And.intro (nth63 _ _ ?_ ?_) ?_); (exact zside); (exact zside))
  | (refine Exists.intro _ (And.intro (nth91 _ _ ?_ ?_) ?_); (exact zside); (exact zside))
  | (refine Exists.intro _ (And.intro (nth93 _ _ ?_ ?_) ?_); (exact zside); (exact zside))
  | (refine Exists.intro _ (And.intro (nth126 _ _ ?_ ?_) ?_); (exact zside); (exact zside))
  | (refine Exists.intro _ (And.intro (nthR _ _ (0 : Int) _ ?_ ?_) ?_); (exact zside); (exact zside))
  | (refine Exists.intro _ (And.intro (nthR _ _ false _ ?_ ?_) ?_); (exact zside); (exact zside))
  | (refine Exists.intro _ (And.intro (nthR _ _ ByteArray.empty _ ?_ ?_) ?_); (exact zside); (exact zside))
  | (refine Exists.intro _ (And.intro (nthR _ (eL _) [] _ ?_ ?_) ?_); (exact zside); (exact zside))
  | refine z_max ?_
  | refine z_min ?_
  | refine z_mod ?_
  | refine z_bytes ?_
  | refine z_wrapk ?_
  | refine z_shr ?_)
 (try conv => whnf)
 try (apply Or.inr; refine zK ?_)
 exact q_.out) : p := e ⟨h⟩
end Go.Proofs.YtchhkbkbbglgbaaGreatDoor.TFnOps
