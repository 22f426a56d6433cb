/- The pure statement of FnExactCmdOk holds: both take the same commands for right. -/
import Derived.Test.YtgdhiccjllpogaaQFnExactCmdOkx2
import Derived.Test.YtgdhiccjllpogaaBulk
namespace Go.Proofs.Ytgdhiccjllpogaa.Pure
open Go.RowKit Go.Proofs.Ytgdhiccjllpogaa.QFnExactCmdOk Go.Proofs.YtgdhiccjllpogaaW.PrintWords Go.Proofs.YtgdhiccjllpogaaW.PrintLast Go.Proofs.YtgdhiccjllpogaaW.PrintMore Go.Proofs.YtgdhiccjllpogaaW.Lims
open Go.Proofs.YtgdhiccjllpogaaW.Bulk
namespace FnExactCmdOkAid

theorem rdin33 (xs : List S33) (i : Nat) (h : i < xs.length) : rd_T33 xs (i : Int) = xs[i] := by
  unfold rd_T33
  simp [List.getD_eq_getElem?_getD, h]

def bl_Cmd (x : S33) : Nat := (x.f2.size + 0)
theorem sz_Cmd (x : S33) (hx : Wf33 x) (left : Int) (h0 : 0 ≤ left) (h1 : left ≤ 1048576) : laws_szCmd.f (x.f0) (x.f1) (x.f2) left = some (dn (bl_Cmd x) left) := by
  unfold laws_szCmd.f
  show _ = some (dn (x.f2.size + 0) left)
  refine dn_cut h0 h1 (len_le hx.2.2) fun t ht h0 h1 => ?_
  rw [ht]
  exact dn_end _ h0

theorem to_Cmd (x : S33) (hb : bl_Cmd x ≤ 1048576) : laws_toCmd.f (x.f0) (x.f1) (x.f2) = some (x.f0, x.f1, x.f2) := by
  unfold bl_Cmd at hb
  unfold laws_toCmd.f
  all_goals rfl


theorem idx_ge (l : List UInt8) (c : UInt8) : -1 ≤ Lib.indexByte l c := Lib.indexByte_ge l c
theorem idx_mem (l : List UInt8) (c : UInt8) : 0 ≤ Lib.indexByte l c ↔ c ∈ l := by
  induction l with
  | nil => simp [Lib.indexByte]
  | cons b l ih =>
    unfold Lib.indexByte
    by_cases h : b = c
    · subst h; simp
    · rw [if_neg (by simpa using h)]
      have hg := idx_ge l c
      by_cases h2 : Lib.indexByte l c = -1
      · rw [if_pos (by simpa using h2)]
        have : c ∉ l := fun e => by have := ih.2 e; omega
        simp [this, Ne.symm h]
      · rw [if_neg (by simpa using h2)]
        have : c ∈ l := ih.1 (by omega)
        simp [this]; omega
theorem bt_nat (s : ByteArray) (i : Nat) (h : i < s.data.toList.length) : bt s (i : Int) = (s.data.toList[i].toNat : Int) := by
  have h' : (i : Int).toNat < s.size := by rw [Int.toNat_natCast, Lib.size_eq]; exact h
  rw [← bt_at s i h']
  rfl
theorem byte_eq (b : UInt8) (n : Nat) (hn : n < 256) : ((b.toNat : Int) = (n : Int)) ↔ b = n.toUInt8 := by
  constructor
  · intro h
    apply UInt8.toNat_inj.1
    rw [Nat.toUInt8_eq, UInt8.toNat_ofNat_of_lt' (by simpa using hn)]
    omega
  · intro h
    rw [h, Nat.toUInt8_eq, UInt8.toNat_ofNat_of_lt' (by simpa using hn)]

theorem line_loop (a : ByteArray) (hl : a.size ≤ 9223372036854775806) (d : Nat) : ∀ i : Nat, a.size - i = d → i ≤ a.size → spec_l9Line.l0v a (i : Int) = some (decide ((10 : UInt8) ∉ a.data.toList.drop i)) := by
  have hs := Lib.size_eq a
  induction d with
  | zero =>
    intro i h1 h2
    rw [spec_l9Line.l0v_eq, if_neg (by omega), List.drop_of_length_le (by omega)]
    simp
  | succ d ih =>
    intro i h1 h2
    have hi : i < a.data.toList.length := by omega
    rw [spec_l9Line.l0v_eq, if_pos (by omega), if_pos (by omega), bt_nat a i hi, wrap_in (by omega) (by omega), show (i : Int) + 1 = ((i + 1 : Nat) : Int) by omega, ih (i + 1) (by omega) (by omega), List.drop_eq_getElem_cons hi]
    have hb : ((a.data.toList[i].toNat : Int) = 10) ↔ a.data.toList[i] = (10 : UInt8) := byte_eq a.data.toList[i] 10 (by omega)
    by_cases h : a.data.toList[i] = (10 : UInt8)
    · rw [if_pos (hb.2 h), h]; simp
    · rw [if_neg (fun e => h (hb.1 e))]
      have h' : ¬ (10 : UInt8) = a.data.toList[i] := fun e => h e.symm
      simp only [List.mem_cons, h', false_or]
theorem line (a : ByteArray) (hl : a.size ≤ 9223372036854775806) : spec_l9Line.fv a = some (decide ((10 : UInt8) ∉ a.data.toList)) := by
  rw [spec_l9Line.fv_eq]
  exact line_loop a hl a.size 0 (by omega) (by omega)
theorem cont (a : ByteArray) : strings_Contains.f a (⟨#[10]⟩ : ByteArray) = some (decide ((10 : UInt8) ∈ a.data.toList)) := by
  show some (decide (0 ≤ Lib.indexByte a.data.toList 10)) = _
  congr 1
  rw [decide_eq_decide]
  exact idx_mem _ _
theorem same (a b : Int) (c : ByteArray) : spec_CmdOk.fv a b c = impl_CmdOk.f a b c ∧ ∃ r, impl_CmdOk.f a b c = some r := by
  rw [spec_CmdOk.fv_eq]
  unfold impl_CmdOk.f impl_in.f spec_l1In.f impl_lineOk.f
  by_cases hc : (c.size : Int) ≤ 60
  · rw [cont, line c (by omega), if_pos hc, if_pos hc]
    have e : (!decide ((10 : UInt8) ∈ c.data.toList)) = decide ((10 : UInt8) ∉ c.data.toList) := by simp
    simp only [Option.bind_some, e, true_and]
    (repeat' split) <;> first | exact ⟨_, rfl⟩ | (simp only [Option.bind_some]; (repeat' split) <;> exact ⟨_, rfl⟩)
  · rw [if_neg hc, if_neg hc]
    simp only [Option.bind_some, true_and]
    (repeat' split) <;> first | exact ⟨_, rfl⟩ | (simp only [Option.bind_some]; (repeat' split) <;> exact ⟨_, rfl⟩)
end FnExactCmdOkAid
open FnExactCmdOkAid

theorem FnExactCmdOk : laws_FnExactCmdOk.Pure := by
  intro x hx
  refine (laws_FnExactCmdOk.f_lim _ _ _).get ?_
  rw [laws_FnExactCmdOk.fv_eq, sz_Cmd x hx 1048576 (by omega) (by omega), Option.bind_some]
  by_cases h : dn (bl_Cmd x) 1048576 < 0
  · rw [if_pos h]
  · obtain ⟨e1, r, e2⟩ := same x.f0 x.f1 x.f2
    rw [if_neg h]
    simp only [laws_toCmd.f, Option.bind_some, e1, e2]
    rw [if_neg (by simp)]

end Go.Proofs.Ytgdhiccjllpogaa.Pure
