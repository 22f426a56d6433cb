/- The program's MachOk answers as the reference's, for all arguments. -/
import Derived.Test.YtdpioibndfpjfaaGreatDoorFFnExactMachOk
import Derived.Test.YtdpioibndfpjfaaGreatDoorBulk
set_option linter.unusedVariables false
set_option linter.unusedSimpArgs false
namespace Go.Proofs.YtdpioibndfpjfaaGreatDoor.Pure
open Go.RowKit Go.Proofs.YtdpioibndfpjfaaGreatDoor.QFnExactMachOk Go.Proofs.YtdpioibndfpjfaaGreatDoorW.PrintWords Go.Proofs.YtdpioibndfpjfaaGreatDoorW.PrintLast Go.Proofs.YtdpioibndfpjfaaGreatDoorW.PrintMore Go.Proofs.YtdpioibndfpjfaaGreatDoorW.Lims
open Go.Proofs.YtdpioibndfpjfaaGreatDoorW.Bulk
namespace FnExactMachOkAid

/-! ### lists of texts: how much is held, copies, alike -/
theorem rdOf_in (r : List ByteArray) (i : Nat) (h : i < r.length) : rdOf ByteArray.empty r (i : Int) = r[i] := by
  unfold rdOf
  rw [Int.toNat_natCast, List.getD_eq_getElem?_getD, List.getElem?_eq_getElem h]
  rfl
def bls_String (l : List ByteArray) : Nat := l.length + (l.map ByteArray.size).sum
theorem sz_StringS (l : List ByteArray) (hx : l.length ≤ maxLen ∧ ∀ x_ ∈ l, (fun s_ : ByteArray => s_.size ≤ maxLen) x_) (left : Int) (h0 : 0 ≤ left) (h1 : left ≤ 1048576) : laws_szStringS.fv l left = some (dn (bls_String l) left) := by
  rw [laws_szStringS.fv_eq]
  have hl := len_le hx.1
  refine dn_cut h0 h1 hl fun t ht h0 h1 => ?_
  rw [ht]
  refine sz_all laws_szStringS.l0v (fun x0 x1 x5 => if wrap64 (x1 - ((rdOf ByteArray.empty x0 x5).size : Int)) < 0 then some (-1) else some (wrap64 (x1 - ((rdOf ByteArray.empty x0 x5).size : Int)))) ByteArray.size (fun x l i => ?_) l hl (fun i h left h0 h1 => ?_) t h0 h1
  · rw [laws_szStringS.l0v_eq]
    by_cases hc : wrap64 (l - ((rdOf ByteArray.empty x i).size : Int)) < 0
    · simp [hc]
    · simp [hc]
  · simp only [rdOf_in l i h]
    show _ = some (dn (l[i].size + 0) left)
    refine dn_cut h0 h1 (len_le (hx.2 _ (List.getElem_mem h))) fun t ht h0 h1 => ?_
    rw [ht]
    exact dn_end _ h0
theorem to_StringS (l : List ByteArray) (hb : bls_String l ≤ 1048576) : laws_toStringS.fv l = some l := by
  have hb' := hb
  unfold bls_String at hb'
  rw [laws_toStringS.fv_eq, if_pos (by omega), if_pos (by omega)]
  have := to_all laws_toStringS.l0v (fun x0 x4 => some (rdOf ByteArray.empty x0 x4)) (fun t => t) (fun t => t) (by intro x acc i; rw [laws_toStringS.l0v_eq]; rfl) l (by omega) (fun i h => ⟨_, rfl, rdOf_in l i h⟩) (⟨#[]⟩ : ByteArray)
  simpa using this
theorem eq_StringS (r : List ByteArray) (hr : r.length ≤ 9223372036854775807) : laws_eqStringS.fv r r = some true := by
  rw [laws_eqStringS.fv_eq, if_pos rfl]
  refine eq_all laws_eqStringS.l0v (fun x y i => some (decide ((rdOf ByteArray.empty x i).toList = (rdOf ByteArray.empty y i).toList))) (fun x y i => ?_) r (by omega) (fun i h => by simp)
  rw [laws_eqStringS.l0v_eq, Option.bind_some]
  simp only [decide_eq_true_eq]

theorem rdin25 (xs : List S25) (i : Nat) (h : i < xs.length) : rd_T25 xs (i : Int) = xs[i] := by
  unfold rd_T25
  simp [List.getD_eq_getElem?_getD, h]

theorem rdin29 (xs : List S29) (i : Nat) (h : i < xs.length) : rd_T29 xs (i : Int) = xs[i] := by
  unfold rd_T29
  simp [List.getD_eq_getElem?_getD, h]

theorem rdin32 (xs : List S32) (i : Nat) (h : i < xs.length) : rd_T32 xs (i : Int) = xs[i] := by
  unfold rd_T32
  simp [List.getD_eq_getElem?_getD, h]

theorem rdin38 (xs : List S38) (i : Nat) (h : i < xs.length) : rd_T38 xs (i : Int) = xs[i] := by
  unfold rd_T38
  simp [List.getD_eq_getElem?_getD, h]

theorem rdin43 (xs : List S43) (i : Nat) (h : i < xs.length) : rd_T43 xs (i : Int) = xs[i] := by
  unfold rd_T43
  simp [List.getD_eq_getElem?_getD, h]

theorem rdin45 (xs : List S45) (i : Nat) (h : i < xs.length) : rd_T45 xs (i : Int) = xs[i] := by
  unfold rd_T45
  simp [List.getD_eq_getElem?_getD, h]

theorem rdin69 (xs : List S69) (i : Nat) (h : i < xs.length) : rd_T69 xs (i : Int) = xs[i] := by
  unfold rd_T69
  simp [List.getD_eq_getElem?_getD, h]

theorem rdin77 (xs : List S77) (i : Nat) (h : i < xs.length) : rd_T77 xs (i : Int) = xs[i] := by
  unfold rd_T77
  simp [List.getD_eq_getElem?_getD, h]

theorem rdin79 (xs : List S79) (i : Nat) (h : i < xs.length) : rd_T79 xs (i : Int) = xs[i] := by
  unfold rd_T79
  simp [List.getD_eq_getElem?_getD, h]

theorem rdin81 (xs : List S81) (i : Nat) (h : i < xs.length) : rd_T81 xs (i : Int) = xs[i] := by
  unfold rd_T81
  simp [List.getD_eq_getElem?_getD, h]

theorem rdin94 (xs : List S94) (i : Nat) (h : i < xs.length) : rd_T94 xs (i : Int) = xs[i] := by
  unfold rd_T94
  simp [List.getD_eq_getElem?_getD, h]

theorem rdin97 (xs : List S97) (i : Nat) (h : i < xs.length) : rd_T97 xs (i : Int) = xs[i] := by
  unfold rd_T97
  simp [List.getD_eq_getElem?_getD, h]

-- TODO sz of texts laws_szStringS
def bl_Op (x : S69) : Nat := (x.f2.size + 0)
theorem sz_Op (x : S69) (hx : Wf69 x) (left : Int) (h0 : 0 ≤ left) (h1 : left ≤ 1048576) : laws_szOp.f (x.f0) (x.f1) (x.f2) left = some (dn (bl_Op x) left) := by
  unfold laws_szOp.f
  show _ = some (dn (x.f2.size + 0) left)
  refine dn_cut h0 h1 (len_le hx.2.2) fun t ht h0 h1 => ?_
  rw [ht]
  exact dn_end _ h0

def bls_Op (l : List S69) : Nat := l.length + (l.map bl_Op).sum
theorem sz_OpS (l : List S69) (hx : l.length ≤ maxLen ∧ ∀ x_ ∈ l, Wf69 x_) (left : Int) (h0 : 0 ≤ left) (h1 : left ≤ 1048576) : laws_szOpS.fv l left = some (dn (bls_Op l) left) := by
  rw [laws_szOpS.fv_eq]
  have hl := len_le hx.1
  refine dn_cut h0 h1 hl fun t ht h0 h1 => ?_
  rw [ht]
  exact sz_all laws_szOpS.l0v (fun x0 x1 x5 => (laws_szOp.f ((rd_T69 x0 x5).f0) ((rd_T69 x0 x5).f1) ((rd_T69 x0 x5).f2) x1)) bl_Op (by intro x l i; exact laws_szOpS.l0v_eq x l i) l hl (fun i h left h0 h1 => by simp only [rdin69 l i h]; exact sz_Op l[i] (hx.2 _ (List.getElem_mem h)) left h0 h1) t h0 h1

def bl_Prog (x : S25) : Nat := (bls_String x.f0 + (bls_String x.f1 + (bls_Op x.f2 + (bls_Op x.f3 + 0))))
theorem sz_Prog (x : S25) (hx : Wf25 x) (left : Int) (h0 : 0 ≤ left) (h1 : left ≤ 1048576) : laws_szProg.fv (x.f0) (x.f1) (x.f2) (x.f3) left = some (dn (bl_Prog x) left) := by
  rw [laws_szProg.fv_eq]
  show _ = some (dn (bls_String x.f0 + (bls_String x.f1 + (bls_Op x.f2 + (bls_Op x.f3 + 0)))) left)
  refine dn_bind h0 h1 (sz_StringS x.f0 hx.1 _ h0 h1) fun t h0 h1 => ?_
  refine dn_bind h0 h1 (sz_StringS x.f1 hx.2.1 _ h0 h1) fun t h0 h1 => ?_
  refine dn_bind h0 h1 (sz_OpS x.f2 hx.2.2.1 _ h0 h1) fun t h0 h1 => ?_
  refine dn_bind h0 h1 (sz_OpS x.f3 hx.2.2.2 _ h0 h1) fun t h0 h1 => ?_
  exact dn_end _ h0

def bl_Val (x : S94) : Nat := (x.f2.size + 0)
theorem sz_Val (x : S94) (hx : Wf94 x) (left : Int) (h0 : 0 ≤ left) (h1 : left ≤ 1048576) : laws_szVal.f (x.f0) (x.f1) (x.f2) left = some (dn (bl_Val x) left) := by
  unfold laws_szVal.f
  show _ = some (dn (x.f2.size + 0) left)
  refine dn_cut h0 h1 (len_le hx.2.2) fun t ht h0 h1 => ?_
  rw [ht]
  exact dn_end _ h0

def bls_Val (l : List S94) : Nat := l.length + (l.map bl_Val).sum
theorem sz_ValS (l : List S94) (hx : l.length ≤ maxLen ∧ ∀ x_ ∈ l, Wf94 x_) (left : Int) (h0 : 0 ≤ left) (h1 : left ≤ 1048576) : laws_szValS.fv l left = some (dn (bls_Val l) left) := by
  rw [laws_szValS.fv_eq]
  have hl := len_le hx.1
  refine dn_cut h0 h1 hl fun t ht h0 h1 => ?_
  rw [ht]
  exact sz_all laws_szValS.l0v (fun x0 x1 x5 => (laws_szVal.f ((rd_T94 x0 x5).f0) ((rd_T94 x0 x5).f1) ((rd_T94 x0 x5).f2) x1)) bl_Val (by intro x l i; exact laws_szValS.l0v_eq x l i) l hl (fun i h left h0 h1 => by simp only [rdin94 l i h]; exact sz_Val l[i] (hx.2 _ (List.getElem_mem h)) left h0 h1) t h0 h1

-- TODO laws_szIntS (type not found)
-- TODO laws_toStringS
def cv_Op (x : S69) : S81 := ⟨x.f0, x.f1, x.f2⟩
theorem to_Op (x : S69) (hb : bl_Op x ≤ 1048576) : laws_toOp.f (x.f0) (x.f1) (x.f2) = some ((cv_Op x).f0, (cv_Op x).f1, (cv_Op x).f2) := by
  unfold bl_Op at hb
  unfold laws_toOp.f
  all_goals rfl

theorem to_OpS (l : List S69) (hb : bls_Op l ≤ 1048576) : laws_toOpS.fv l = some (l.map cv_Op) := by
  have hb' := hb
  unfold bls_Op at hb'
  rw [laws_toOpS.fv_eq, if_pos (by omega), if_pos (by omega)]
  have := to_all laws_toOpS.l0v (fun x0 x4 => (laws_toOp.f ((rd_T69 x0 x4).f0) ((rd_T69 x0 x4).f1) ((rd_T69 x0 x4).f2))) (fun t20 => (⟨t20.1, t20.2.1, t20.2.2⟩ : S81)) cv_Op (by intro x acc i; exact laws_toOpS.l0v_eq x acc i) l (by omega) (fun i h => by
    have hm := le_sum (List.mem_map_of_mem (f := bl_Op) (List.getElem_mem h))
    simp only [rdin69 l i h]; exact ⟨_, to_Op l[i] (by omega), rfl⟩) z81
  simpa using this

def cv_Prog (x : S25) : S38 := ⟨x.f0, x.f1, x.f2.map cv_Op, x.f3.map cv_Op⟩
theorem to_Prog (x : S25) (hb : bl_Prog x ≤ 1048576) : laws_toProg.fv (x.f0) (x.f1) (x.f2) (x.f3) = some ((cv_Prog x).f0, (cv_Prog x).f1, (cv_Prog x).f2, (cv_Prog x).f3) := by
  unfold bl_Prog at hb
  rw [laws_toProg.fv_eq]
  rw [to_StringS x.f0 (by omega), Option.bind_some]
  rw [to_StringS x.f1 (by omega), Option.bind_some]
  rw [to_OpS x.f2 (by omega), Option.bind_some]
  rw [to_OpS x.f3 (by omega), Option.bind_some]
  all_goals rfl

def cv_Val (x : S94) : S77 := ⟨x.f0, x.f1, x.f2⟩
theorem to_Val (x : S94) (hb : bl_Val x ≤ 1048576) : laws_toVal.f (x.f0) (x.f1) (x.f2) = some ((cv_Val x).f0, (cv_Val x).f1, (cv_Val x).f2) := by
  unfold bl_Val at hb
  unfold laws_toVal.f
  all_goals rfl

theorem to_ValS (l : List S94) (hb : bls_Val l ≤ 1048576) : laws_toValS.fv l = some (l.map cv_Val) := by
  have hb' := hb
  unfold bls_Val at hb'
  rw [laws_toValS.fv_eq, if_pos (by omega), if_pos (by omega)]
  have := to_all laws_toValS.l0v (fun x0 x4 => (laws_toVal.f ((rd_T94 x0 x4).f0) ((rd_T94 x0 x4).f1) ((rd_T94 x0 x4).f2))) (fun t20 => (⟨t20.1, t20.2.1, t20.2.2⟩ : S77)) cv_Val (by intro x acc i; exact laws_toValS.l0v_eq x acc i) l (by omega) (fun i h => by
    have hm := le_sum (List.mem_map_of_mem (f := bl_Val) (List.getElem_mem h))
    simp only [rdin94 l i h]; exact ⟨_, to_Val l[i] (by omega), rfl⟩) z77
  simpa using this

-- TODO laws_toIntS
-- TODO laws_eqStringS
theorem eq_Op (y : S81) : laws_eqOp.f (y.f0) (y.f1) (y.f2) (y.f0) (y.f1) (y.f2) = some true := by
  unfold laws_eqOp.f
  simp

theorem eq_OpS (l : List S81) (h : l.length ≤ 9223372036854775807) : laws_eqOpS.fv l l = some true := by
  rw [laws_eqOpS.fv_eq, if_pos rfl]
  exact eq_all laws_eqOpS.l0v (fun x0 x1 x5 => (laws_eqOp.f ((rd_T81 x0 x5).f0) ((rd_T81 x0 x5).f1) ((rd_T81 x0 x5).f2) ((rd_T81 x1 x5).f0) ((rd_T81 x1 x5).f1) ((rd_T81 x1 x5).f2))) (by intro x y i; exact laws_eqOpS.l0v_eq x y i) l h (fun i hi => by simp only [rdin81 l i hi]; exact eq_Op l[i])

def ok38 (y : S38) : Prop := (y.f0.length ≤ 9223372036854775807) ∧ (y.f1.length ≤ 9223372036854775807) ∧ (y.f2.length ≤ 9223372036854775807) ∧ (y.f3.length ≤ 9223372036854775807)

theorem eq_Prog (y : S38) (h : ok38 y) : laws_eqProg.fv (y.f0) (y.f1) (y.f2) (y.f3) (y.f0) (y.f1) (y.f2) (y.f3) = some true := by
  rw [laws_eqProg.fv_eq]
  simp [eq_StringS y.f0 h.1, eq_StringS y.f1 h.2.1, eq_OpS y.f2 h.2.2.1, eq_OpS y.f3 h.2.2.2]

theorem eq_Val (y : S77) : laws_eqVal.f (y.f0) (y.f1) (y.f2) (y.f0) (y.f1) (y.f2) = some true := by
  unfold laws_eqVal.f
  simp

theorem eq_ValS (l : List S77) (h : l.length ≤ 9223372036854775807) : laws_eqValS.fv l l = some true := by
  rw [laws_eqValS.fv_eq, if_pos rfl]
  exact eq_all laws_eqValS.l0v (fun x0 x1 x5 => (laws_eqVal.f ((rd_T77 x0 x5).f0) ((rd_T77 x0 x5).f1) ((rd_T77 x0 x5).f2) ((rd_T77 x1 x5).f0) ((rd_T77 x1 x5).f1) ((rd_T77 x1 x5).f2))) (by intro x y i; exact laws_eqValS.l0v_eq x y i) l h (fun i hi => by simp only [rdin77 l i hi]; exact eq_Val l[i])

-- TODO laws_eqIntS

/-! ### texts as rows of bytes -/
def B (l : List UInt8) : ByteArray := ⟨l.toArray⟩
theorem B_self (s : ByteArray) : B s.data.toList = s := by cases s; simp [B]
theorem B_size (l : List UInt8) : (B l).size = l.length := by show l.toArray.size = l.length; simp
theorem B_data (l : List UInt8) : (B l).data.toList = l := by simp [B]
theorem B_append (a b : List UInt8) : B a ++ B b = B (a ++ b) := by
  apply ByteArray.ext
  rw [ByteArray.data_append]
  simp [B]
theorem B_inj {a b : List UInt8} (h : B a = B b) : a = b := by
  have := congrArg (fun s : ByteArray => s.data.toList) h
  simpa [B] using this
theorem B_extract (l : List UInt8) (i j : Nat) : (B l).extract i j = B ((l.drop i).take (j - i)) := by rw [Lib.extract_eq, B_data]; rfl
theorem B_toList (l : List UInt8) : (B l).toList = l := by rw [Lib.toList_data, B_data]
theorem B_bt (l : List UInt8) (i : Nat) (h : i < l.length) : bt (B l) (i : Int) = (l[i].toNat : Int) := by
  have h' : (i : Int).toNat < (B l).size := by rw [Int.toNat_natCast, B_size]; exact h
  rw [← bt_at (B l) i h']
  rfl
theorem wrap_in {n : Int} (h0 : -9223372036854775808 ≤ n) (h1 : n ≤ 9223372036854775807) : wrap64 n = n := by unfold wrap64; omega
theorem byte_is (b c : UInt8) (n : Int) (hc : (c.toNat : Int) = n) : ((b.toNat : Int) = n) ↔ b = c := by
  rw [← UInt8.toNat_inj, ← hc]; omega
theorem byte_ofNat (n : Nat) (h : n < 256) : (UInt8.ofNat n).toNat = n := by rw [UInt8.toNat_ofNat']; omega

theorem within_loop (l : List ByteArray) (s : ByteArray) (hl : l.length ≤ 2000000) (d : Nat) : ∀ i : Nat, l.length - i = d → i ≤ l.length →
    spec_l7Within.l0v l s (i : Int) = some (decide (s.toList ∈ (l.drop i).map ByteArray.toList)) := by
  induction d with
  | zero =>
    intro i h1 h2
    rw [spec_l7Within.l0v_eq, if_neg (by omega), List.drop_of_length_le (by omega)]
    simp
  | succ d ih =>
    intro i h1 h2
    have hi : i < l.length := by omega
    rw [spec_l7Within.l0v_eq, if_pos (by omega), if_pos (by omega), rdOf_nat _ l i hi, wrap_in (by omega) (by omega), show (i : Int) + 1 = ((i + 1 : Nat) : Int) by omega, ih (i + 1) (by omega) (by omega)]
    rw [List.drop_eq_getElem_cons hi, List.map_cons]
    by_cases h : l[i].toList = s.toList
    · rw [if_pos h, h]; congr 1; exact (decide_eq_true List.mem_cons_self).symm
    · rw [if_neg h]; congr 1; rw [decide_eq_decide, List.mem_cons]; exact ⟨Or.inr, fun e => e.resolve_left (fun e => h e.symm)⟩
theorem within (l : List ByteArray) (s : ByteArray) (hl : l.length ≤ 2000000) : spec_l7Within.fv l s = some (decide (s.toList ∈ l.map ByteArray.toList)) := by
  rw [spec_l7Within.fv_eq]
  exact within_loop l s hl l.length 0 (by omega) (by omega)
theorem index_loop (l : List ByteArray) (s : ByteArray) (hl : l.length ≤ 2000000) (d : Nat) : ∀ i : Nat, l.length - i = d → i ≤ l.length →
    ∃ r : Int, slices_Index_string_string.l0v l s (l.length : Int) (i : Int) = some r ∧ (r ≥ 0 ↔ s.toList ∈ (l.drop i).map ByteArray.toList) := by
  induction d with
  | zero =>
    intro i h1 h2
    exact ⟨-1, by rw [slices_Index_string_string.l0v_eq, if_neg (by omega)], by rw [List.drop_of_length_le (by omega)]; simp⟩
  | succ d ih =>
    intro i h1 h2
    have hi : i < l.length := by omega
    obtain ⟨r, hr, he⟩ := ih (i + 1) (by omega) (by omega)
    rw [slices_Index_string_string.l0v_eq, if_pos (by omega), if_pos (by omega), if_pos (by omega), rdOf_nat _ l i hi, wrap_in (by omega) (by omega), show (i : Int) + 1 = ((i + 1 : Nat) : Int) by omega]
    rw [List.drop_eq_getElem_cons hi, List.map_cons]
    by_cases h : s.toList = l[i].toList
    · exact ⟨i, by rw [if_pos h], ⟨fun _ => by rw [h]; exact List.mem_cons_self, fun _ => by omega⟩⟩
    · exact ⟨r, by rw [if_neg h]; exact hr, by rw [he, List.mem_cons]; exact ⟨Or.inr, fun e => e.resolve_left h⟩⟩
theorem contains (l : List ByteArray) (s : ByteArray) (hl : l.length ≤ 2000000) : slices_Contains_string_string.fv l s = some (decide (s.toList ∈ l.map ByteArray.toList)) := by
  rw [slices_Contains_string_string.fv_eq, slices_Index_string_string.fv_eq]
  obtain ⟨r, hr, he⟩ := index_loop l s hl l.length 0 (by omega) (by omega)
  have hr' : slices_Index_string_string.l0v l s (l.length : Int) 0 = some r := hr
  rw [hr']
  simp only [Option.bind_some]
  congr 1
  rw [decide_eq_decide]
  exact he
theorem jl {k l : List UInt8} {X C : Option Bool} : (if k = l then (if (k == l) = true then some true else C) else X) = if k = l then some true else X := by
  by_cases h : k = l
  · subst h; simp
  · rw [if_neg h, if_neg h]
theorem jz {k l : List UInt8} {C : Option Bool} : (if (k == l) = true then some true else C) = if k = l then some true else C := by
  by_cases h : k = l
  · subst h; simp
  · rw [if_neg h, if_neg (by simpa using h)]
theorem or_ite {p q : Prop} [Decidable p] [Decidable q] {a X : Option Bool} : (if p then a else if q then a else X) = if p ∨ q then a else X := by
  by_cases h : p <;> by_cases h2 : q <;> simp [h, h2]
theorem bind_ite {p : Prop} [Decidable p] {X : Option Bool} : ((some (decide p)).bind fun t => if t = true then some true else X) = if p then some true else X := by
  by_cases h : p <;> simp [h]
def words : List (List UInt8) := [[66, 69, 71, 73, 78], [112, 114, 105, 110, 116], [105, 102], [101, 108, 115, 101], [119, 104, 105, 108, 101], [110, 101, 120, 116], [100, 101, 108, 101, 116, 101], [78, 82], [78, 70]]
def callws : List (List UInt8) := [[108, 101, 110, 103, 116, 104], [115, 117, 98, 115, 116, 114], [105, 110, 100, 101, 120], [105, 110, 116], [117, 112, 112, 101, 114], [108, 111, 119, 101, 114]]
/-- Is a text one of the words that are no names? -/
def isKey (k : List UInt8) : Bool := decide (k ∈ words ∨ k ∈ callws)
theorem spec_key (s : ByteArray) : spec_Keyword.fv s = some (isKey s.toList) := by
  rw [spec_Keyword.fv_eq]
  simp only [spec_l7Calls.f, Option.bind_some]
  rw [within _ _ (by simp), within _ _ (by simp)]
  simp only [List.map_cons, List.map_nil, Go.ByteArray.toList_mk]
  rw [bind_ite]
  simp only [Option.bind_some]
  show (if s.toList ∈ words then some true else some (decide (s.toList ∈ callws))) = _
  unfold isKey
  by_cases h : s.toList ∈ words
  · rw [if_pos h]; simp [h]
  · rw [if_neg h]; simp [h]
theorem impl_key (s : ByteArray) : impl_Keyword.fv s = some (isKey s.toList) := by
  rw [impl_Keyword.fv_eq]
  simp only [impl_Keyword.j0v_eq, impl_calls.f, Option.bind_some]
  rw [contains _ _ (by simp)]
  simp only [List.map_cons, List.map_nil, Go.ByteArray.toList_mk]
  simp only [jl, jz]
  simp only [Option.bind_some]
  unfold isKey
  have e : (s.toList ∈ words) ↔ (s.toList = [66, 69, 71, 73, 78] ∨ s.toList = [112, 114, 105, 110, 116] ∨ s.toList = [105, 102] ∨ s.toList = [101, 108, 115, 101] ∨ s.toList = [119, 104, 105, 108, 101] ∨ s.toList = [110, 101, 120, 116] ∨ s.toList = [100, 101, 108, 101, 116, 101] ∨ s.toList = [78, 82] ∨ s.toList = [78, 70]) := by
    simp only [words, List.mem_cons, List.not_mem_nil, or_false]
  by_cases h : s.toList ∈ words
  · rcases e.1 h with g | g | g | g | g | g | g | g | g <;> (rw [g]; rfl)
  · have h2 := h
    rw [e] at h2
    simp only [not_or] at h2
    obtain ⟨h1, h2, h3, h4, h5, h6, h7, h8, h9⟩ := h2
    rw [if_neg h1, if_neg h2, if_neg h3, if_neg h4, if_neg h5, if_neg h6, if_neg h7, if_neg h8, if_neg h9]
    show some (decide (s.toList ∈ callws)) = _
    simp [h]

/-! ### texts: lines, patterns, names -/
theorem in_s (a lo hi : Int) : spec_l1In.f a lo hi = some (decide (lo ≤ a ∧ a ≤ hi)) := by
  unfold spec_l1In.f
  by_cases h : lo ≤ a
  · rw [if_pos h]; simp [h]
  · rw [if_neg h]; simp [h]
theorem in_i (a lo hi : Int) : impl_in.f a lo hi = some (decide (lo ≤ a ∧ a ≤ hi)) := by
  unfold impl_in.f
  by_cases h : lo ≤ a
  · rw [if_pos h]; simp [h]
  · rw [if_neg h]; simp [h]
def ln (c : ByteArray) : Bool := decide ((10 : UInt8) ∉ c.data.toList)
theorem letter_same (n : Int) : spec_l7Letter.f n = impl_isLetter.f n ∧ ∃ b, impl_isLetter.f n = some b := by
  refine ⟨rfl, ?_⟩
  unfold impl_isLetter.f
  (repeat' split) <;> exact ⟨_, rfl⟩
def nmEnd (c : ByteArray) : Bool := decide (1 ≤ (c.size : Int) ∧ (c.size : Int) ≤ 8) && !isKey c.toList
theorem name_run (c : ByteArray) (hl : c.size ≤ 1048576) (d : Nat) : ∀ i : Nat, c.size - i = d → i ≤ c.size → ∃ (b : Bool) (t : Int), spec_l9Name.l0v c (i : Int) = some (b && nmEnd c) ∧ impl_lettersAt.l0v c 0 (i : Int) = some t ∧ (b = true ↔ t = (c.size : Int)) := by
  induction d with
  | zero =>
    intro i h1 h2
    have e : i = c.size := by omega
    refine ⟨true, i, ?_, ?_, by simp [e]⟩
    · rw [spec_l9Name.l0v_eq, if_neg (by omega), in_s, Option.bind_some, spec_key]
      unfold nmEnd
      by_cases h : 1 ≤ (c.size : Int) ∧ (c.size : Int) ≤ 8
      · rw [decide_eq_true h]; rfl
      · rw [decide_eq_false h]; rfl
    · rw [impl_lettersAt.l0v_eq, Int.zero_add, wrap_in (by omega) (by omega), if_neg (by omega)]
  | succ d ih =>
    intro i h1 h2
    have w1 : wrap64 ((i : Int) + 1) = ((i + 1 : Nat) : Int) := by rw [wrap_in (by omega) (by omega)]; omega
    obtain ⟨b, t, e1, e2, e3⟩ := ih (i + 1) (by omega) (by omega)
    obtain ⟨q1, p, q2⟩ := letter_same (bt c (i : Int))
    rw [spec_l9Name.l0v_eq, impl_lettersAt.l0v_eq, Int.zero_add, wrap_in (n := (i : Int)) (by omega) (by omega), if_pos (by omega), if_pos (by omega), if_pos (by omega), if_pos (by omega), q1, q2, w1]
    simp only [Option.bind_some]
    cases p
    · rw [if_neg (by simp), if_neg (by simp)]
      exact ⟨false, i, rfl, rfl, by simp; omega⟩
    · rw [if_pos rfl, if_pos rfl]
      exact ⟨b, t, e1, e2, e3⟩
theorem name_both (c : ByteArray) (hl : c.size ≤ 1048576) : ∃ b, spec_l9Name.fv c = some b ∧ impl_isName.fv c = some b := by
  rw [spec_l9Name.fv_eq, impl_isName.fv_eq, in_i, impl_lettersAt.fv_eq]
  obtain ⟨b, t, e1, e2, e3⟩ := name_run c hl c.size 0 (by omega) (by omega)
  refine ⟨_, e1, ?_⟩
  have e2' : impl_lettersAt.l0v c 0 0 = some t := e2
  rw [Option.bind_some, e2', Option.bind_some, impl_key, Option.bind_some]
  unfold nmEnd
  by_cases h : 1 ≤ (c.size : Int) ∧ (c.size : Int) ≤ 8
  · rw [decide_eq_true h, if_pos rfl]
    by_cases g : t = (c.size : Int)
    · rw [if_pos g, e3.2 g]; rfl
    · rw [if_neg g]
      have : b = false := by cases b with
        | false => rfl
        | true => exact absurd (e3.1 rfl) g
      rw [this]; rfl
  · rw [decide_eq_false h, if_neg (by simp)]; cases b <;> rfl

/-! ### two readers of patterns: what both see -/
theorem next_nil (b : Bool) : impl_rexReader_next.f (B []) b = some (0, false, B [], b) := by
  unfold impl_rexReader_next.f
  rw [B_toList, if_pos rfl]
theorem next_bad (l : List UInt8) : impl_rexReader_next.f (B l) true = some (0, false, B l, true) := by
  unfold impl_rexReader_next.f
  split
  · rfl
  · rw [if_pos rfl]
theorem next_cons (c : UInt8) (l : List UInt8) : impl_rexReader_next.f (B (c :: l)) false = some ((c.toNat : Int), true, B (c :: l), false) := by
  unfold impl_rexReader_next.f
  have e : bt (B (c :: l)) ((0 : Nat) : Int) = (c.toNat : Int) := B_bt _ 0 (by simp)
  rw [B_toList, if_neg (by simp), if_neg (by decide), if_pos (by rw [B_size, List.length_cons]; omega)]
  rw [show ((0 : Nat) : Int) = 0 from rfl] at e
  rw [e]
theorem rest_of (c : UInt8) (l : List UInt8) : (B (c :: l)).extract 1 (B (c :: l)).size = B l := by rw [B_extract, B_size]; simp
theorem one_in (c : UInt8) (l : List UInt8) : 1 ≤ ((B (c :: l)).size : Int) := by rw [B_size, List.length_cons]; omega
theorem take_nil (b : Bool) (ch : Int) : impl_rexReader_take.f (B []) b ch = some (false, B [], b) := by
  unfold impl_rexReader_take.f
  rw [next_nil, Option.bind_some, if_neg (by simp)]
theorem take_bad (l : List UInt8) (ch : Int) : impl_rexReader_take.f (B l) true ch = some (false, B l, true) := by
  unfold impl_rexReader_take.f
  rw [next_bad, Option.bind_some, if_neg (by simp)]
theorem take_hit (c : UInt8) (l : List UInt8) (ch : Int) (h : (c.toNat : Int) = ch) : impl_rexReader_take.f (B (c :: l)) false ch = some (true, B l, false) := by
  unfold impl_rexReader_take.f
  rw [next_cons, Option.bind_some, if_pos rfl, if_pos h, if_pos (one_in c l), rest_of]
theorem take_miss (c : UInt8) (l : List UInt8) (ch : Int) (h : ¬ (c.toNat : Int) = ch) : impl_rexReader_take.f (B (c :: l)) false ch = some (false, B (c :: l), false) := by
  unfold impl_rexReader_take.f
  rw [next_cons, Option.bind_some, if_pos rfl, if_neg h]
/-- where a rest of T begins -/
def pl (T l : List UInt8) : Int := ((T.length - l.length : Nat) : Int)
def Ctx (T l : List UInt8) (d : Nat) : Prop := ∃ pre, T = pre ++ l ∧ d ≤ pre.length ∧ T.length ≤ 60
theorem ctx_bt {T l : List UInt8} {c : UInt8} {d : Nat} (h : Ctx T (c :: l) d) : bt (B T) (pl T (c :: l)) = (c.toNat : Int) := by
  obtain ⟨pre, rfl, _, _⟩ := h
  have e : pl (pre ++ c :: l) (c :: l) = ((pre.length : Nat) : Int) := by unfold pl; simp
  rw [e, B_bt _ pre.length (by simp)]
  simp
theorem pl_ge (T l : List UInt8) : 0 ≤ pl T l := by unfold pl; omega
theorem ctx_lt {T l : List UInt8} {c : UInt8} {d : Nat} (h : Ctx T (c :: l) d) : pl T (c :: l) < ((B T).size : Int) := by
  obtain ⟨pre, rfl, _, _⟩ := h
  unfold pl
  rw [B_size, List.length_append, List.length_cons]
  omega
theorem ctx_next {T l : List UInt8} {c : UInt8} {d : Nat} (h : Ctx T (c :: l) d) : wrap64 (pl T (c :: l) + 1) = pl T l := by
  obtain ⟨pre, rfl, _, h3⟩ := h
  unfold pl
  rw [List.length_append, List.length_cons] at h3 ⊢
  rw [wrap_in (by omega) (by omega)]
  omega
theorem pl_nil (T : List UInt8) : pl T [] = (T.length : Int) := by unfold pl; simp
theorem ctx_drop {T l : List UInt8} {d : Nat} (h : Ctx T l d) (k : Nat) : Ctx T (l.drop k) d := by
  obtain ⟨pre, rfl, h2, h3⟩ := h
  exact ⟨pre ++ l.take k, by rw [List.append_assoc, List.take_append_drop], by rw [List.length_append]; omega, h3⟩
theorem ctx_tail {T l : List UInt8} {c : UInt8} {d : Nat} (h : Ctx T (c :: l) d) : Ctx T l d := ctx_drop h 1
theorem ctx_in {T l : List UInt8} {c : UInt8} {d : Nat} (h : Ctx T (c :: l) d) : Ctx T l (d + 1) := by
  obtain ⟨pre, rfl, h2, h3⟩ := h
  exact ⟨pre ++ [c], by simp, by rw [List.length_append, List.length_singleton]; omega, h3⟩
theorem ctx_len {T l : List UInt8} {d : Nat} (h : Ctx T l d) : d + l.length ≤ 60 := by
  obtain ⟨pre, rfl, h2, h3⟩ := h
  rw [List.length_append] at h3
  omega
theorem now_bad (T : List UInt8) (at_ ch : Int) : spec_l3Now.f (B T) at_ true ch = some (false, B T, at_, true) := by
  unfold spec_l3Now.f
  rw [if_pos rfl]
theorem now_end (T : List UInt8) (ch : Int) : spec_l3Now.f (B T) (pl T []) false ch = some (false, B T, pl T [], false) := by
  unfold spec_l3Now.f
  rw [if_neg (by decide), pl_nil, if_neg (by rw [B_size]; omega)]
theorem now_cons {T l : List UInt8} {c : UInt8} {d : Nat} (h : Ctx T (c :: l) d) (ch : Int) : spec_l3Now.f (B T) (pl T (c :: l)) false ch = some (((c.toNat : Int) == ch), B T, pl T (c :: l), false) := by
  unfold spec_l3Now.f
  rw [if_neg (by decide), if_pos (ctx_lt h), if_pos (pl_ge _ _), ctx_bt h]
def IR (o : Option (Int × Int × ByteArray × Bool × List S115 × ByteArray × Bool)) (x : S115) (l : List UInt8) (b : Bool) : Prop := o = some (x.f0, x.f1, x.f2, x.f3, x.f4, B l, b)
def SR (T : List UInt8) (o : Option (Int × Int × ByteArray × Bool × List S115 × ByteArray × Int × Bool)) (x : S115) (a : Int) (b : Bool) : Prop := o = some (x.f0, x.f1, x.f2, x.f3, x.f4, B T, a, b)
/-! ### sets -/
theorem mark_both (n : Nat) : ∀ (has : List Bool) (lo hi : Int), (hi + 1 - lo).toNat = n → 0 ≤ lo → hi ≤ 255 → has.length = 256 → ∃ has' : List Bool, has'.length = 256 ∧
    (∀ x5 x7 S c p q s f, impl_rexReader_set.l1v x5 has x7 hi lo S c p q s f = impl_rexReader_set.l0v x5 has' (wrap64 (x7 + 1)) S c p q s f) ∧
    (∀ m T a c p q s f, spec_l3Set.l1v has m hi lo T a c p q s f = spec_l3Set.l0v has' (wrap64 (m + 1)) T a c p q s f) := by
  induction n with
  | zero =>
    intro has lo hi h1 h2 h3 h4
    refine ⟨has, h4, fun x5 x7 S c p q s f => ?_, fun m T a c p q s f => ?_⟩
    · rw [impl_rexReader_set.l1v_eq, if_neg (by omega)]
    · rw [spec_l3Set.l1v_eq, if_neg (by omega)]
  | succ n ih =>
    intro has lo hi h1 h2 h3 h4
    obtain ⟨has', e1, e2, e3⟩ := ih (has.set lo.toNat true) (lo + 1) hi (by omega) (by omega) h3 (by rw [List.length_set]; exact h4)
    refine ⟨has', e1, fun x5 x7 S c p q s f => ?_, fun m T a c p q s f => ?_⟩
    · rw [impl_rexReader_set.l1v_eq, if_pos (by omega), if_pos h2, if_pos (by omega), wrap_in (n := lo + 1) (by omega) (by omega)]
      exact e2 x5 x7 S c p q s f
    · rw [spec_l3Set.l1v_eq, if_pos (by omega), if_pos h2, if_pos (by omega), wrap_in (n := lo + 1) (by omega) (by omega)]
      exact e3 m T a c p q s f
theorem out_both (has : List Bool) (hh : has.length = 256) (n : Nat) : ∀ (i : Nat) (out : List Int), 256 - i = n → i ≤ 256 → out.length ≤ i → ∃ out' : List Int,
    (∀ S c p q s f, impl_rexReader_set.l2v out has 256 (i : Int) S c p q s f = some (p, q, strOfNums out', f, [], S, c)) ∧
    (∀ T a c p q s f, spec_l3Set.l2v has out (i : Int) T a c p q s f = some (p, q, strOfNums out', f, [], T, a, c)) := by
  induction n with
  | zero =>
    intro i out h1 h2 h3
    refine ⟨out, fun S c p q s f => ?_, fun T a c p q s f => ?_⟩
    · rw [impl_rexReader_set.l2v_eq, if_neg (by omega)]
    · rw [spec_l3Set.l2v_eq, if_neg (by omega)]
  | succ n ih =>
    intro i out h1 h2 h3
    have hw : wrap64 ((i : Int) + 1) = ((i + 1 : Nat) : Int) := by rw [wrap_in (by omega) (by omega)]; omega
    by_cases h : rdOf false has (i : Int) = true
    · obtain ⟨out', e1, e2⟩ := ih (i + 1) (out ++ [(i : Int) % 256]) (by omega) (by omega) (by simp; omega)
      refine ⟨out', fun S c p q s f => ?_, fun T a c p q s f => ?_⟩
      · rw [impl_rexReader_set.l2v_eq, if_pos (by omega), if_pos (by omega), if_pos (by omega), if_pos h, if_pos (by omega), hw]
        exact e1 S c p q s f
      · rw [spec_l3Set.l2v_eq, if_pos (by omega), if_pos (by omega), if_pos (by omega), if_pos h, if_pos (by omega), hw]
        exact e2 T a c p q s f
    · obtain ⟨out', e1, e2⟩ := ih (i + 1) out (by omega) (by omega) (by omega)
      refine ⟨out', fun S c p q s f => ?_, fun T a c p q s f => ?_⟩
      · rw [impl_rexReader_set.l2v_eq, if_pos (by omega), if_pos (by omega), if_pos (by omega), if_neg h, hw]
        exact e1 S c p q s f
      · rw [spec_l3Set.l2v_eq, if_pos (by omega), if_pos (by omega), if_pos (by omega), if_neg h, hw]
        exact e2 T a c p q s f
theorem idx_close (l : List UInt8) : (Lib.indexByte l 93 = -1 ∧ (93 : UInt8) ∉ l) ∨ ∃ a r, l = a ++ 93 :: r ∧ (93 : UInt8) ∉ a ∧ Lib.indexByte l 93 = (a.length : Int) := by
  induction l with
  | nil => exact .inl ⟨rfl, by simp⟩
  | cons b l ih =>
    by_cases h : b = 93
    · subst h
      exact .inr ⟨[], l, rfl, by simp, by simp [Lib.indexByte]⟩
    · have hb : (b == 93) = false := by simpa using h
      rcases ih with ⟨e, hn⟩ | ⟨a, r, rfl, hn, e⟩
      · exact .inl ⟨by rw [Lib.indexByte, hb, e]; rfl, by simp [hn, Ne.symm h]⟩
      · refine .inr ⟨b :: a, r, rfl, by simp [hn, Ne.symm h], ?_⟩
        have hne : ¬ ((a.length : Int) == -1) = true := fun z => by have := beq_iff_eq.1 z; omega
        rw [Lib.indexByte, hb, e, if_neg (by decide), if_neg hne]
        simp

theorem place_body (T pre body rest : List UInt8) (hT : T = pre ++ (body ++ rest)) (j : Nat) (hj : j < body.length) : bt (B T) ((pre.length + j : Nat) : Int) = (body[j].toNat : Int) := by
  have hlen : T.length = pre.length + (body.length + rest.length) := by rw [hT, List.length_append, List.length_append]
  rw [B_bt T (pre.length + j) (by omega)]
  congr 2
  subst hT
  rw [List.getElem_append_right (by omega)]
  simp only [Nat.add_sub_cancel_left]
  rw [List.getElem_append_left hj]
theorem place_end (T pre body r2 : List UInt8) (hT : T = pre ++ (body ++ 93 :: r2)) : bt (B T) ((pre.length + body.length : Nat) : Int) = 93 := by
  have hlen : T.length = pre.length + (body.length + (r2.length + 1)) := by rw [hT, List.length_append, List.length_append, List.length_cons]
  rw [B_bt T (pre.length + body.length) (by omega)]
  subst hT
  rw [List.getElem_append_right (by omega)]
  simp only [Nat.add_sub_cancel_left]
  rw [List.getElem_append_right (by omega)]
  simp
theorem impl_range (body : List UInt8) (h60 : body.length ≤ 60) (i : Nat) (hR1 : i + 2 < body.length) (hR3 : body[i + 1]'(by omega) = 45) (has has1 : List Bool) (c : Bool)
    (g2 : ∀ x5 x7 S c p q s f, impl_rexReader_set.l1v x5 has x7 (body[i + 2].toNat : Int) ((body[i]'(by omega)).toNat : Int) S c p q s f = impl_rexReader_set.l0v x5 has1 (wrap64 (x7 + 1)) S c p q s f) (S p q s f) :
    impl_rexReader_set.l0v (B body) has (i : Int) S c p q s f = impl_rexReader_set.l0v (B body) has1 ((i + 3 : Nat) : Int) S (c || decide ((body[i + 2].toNat : Int) < ((body[i]'(by omega)).toNat : Int))) p q s f := by
  have l1 := (body[i]'(by omega)).toNat_lt
  have l2 := body[i + 2].toNat_lt
  have w1 : wrap64 ((i : Int) + 1) = ((i + 1 : Nat) : Int) := by rw [wrap_in (by omega) (by omega)]; omega
  have w2 : wrap64 ((i : Int) + 2) = ((i + 2 : Nat) : Int) := by rw [wrap_in (by omega) (by omega)]; omega
  have w7 : wrap64 (((i + 2 : Nat) : Int) + 1) = ((i + 3 : Nat) : Int) := by rw [wrap_in (by omega) (by omega)]; omega
  have b0 : bt (B body) (i : Int) = ((body[i]'(by omega)).toNat : Int) := B_bt body i (by omega)
  have b1 : bt (B body) ((i + 1 : Nat) : Int) = 45 := by rw [B_bt body (i + 1) (by omega), hR3]; rfl
  have b2 : bt (B body) ((i + 2 : Nat) : Int) = (body[i + 2].toNat : Int) := B_bt body (i + 2) hR1
  generalize body[i]'(by omega) = u at *
  generalize body[i + 2] = v at *
  have wu : wrap64 (u.toNat : Int) = (u.toNat : Int) := wrap_in (by omega) (by omega)
  have wv : wrap64 (v.toNat : Int) = (v.toNat : Int) := wrap_in (by omega) (by omega)
  have hs : ((B body).size : Int) = (body.length : Int) := by rw [B_size]
  have c1 : (i : Int) < (body.length : Int) := by omega
  have c2 : (0 : Int) ≤ (i : Int) := by omega
  have c3 : ((i + 2 : Nat) : Int) < (body.length : Int) := by omega
  have c4 : (0 : Int) ≤ ((i + 1 : Nat) : Int) := by omega
  have c5 : ((i + 1 : Nat) : Int) < (body.length : Int) := by omega
  have c6 : (0 : Int) ≤ ((i + 2 : Nat) : Int) := by omega
  have d45 : ((45 : Int) == 45) = true := rfl
  rw [impl_rexReader_set.l0v_eq]
  simp only [hs, w1, w2, c1, c2, c3, c4, c5, b0, b1, wu, d45, if_true]
  rw [impl_rexReader_set.j1v_eq]
  simp only [hs, w2, c6, c3, b2, wv, if_true]
  cases c
  · simp only [Bool.false_eq_true, if_false, Bool.false_or]
    rw [impl_rexReader_set.j2v_eq, g2, w7]
  · simp only [if_true, Bool.true_or]
    rw [impl_rexReader_set.j2v_eq, g2, w7]
theorem impl_byte (body : List UInt8) (h60 : body.length ≤ 60) (i : Nat) (hi : i < body.length) (hR : ∀ h : i + 2 < body.length, ¬ body[i + 1]'(by omega) = 45) (has has1 : List Bool) (c : Bool)
    (g2 : ∀ x5 x7 S c p q s f, impl_rexReader_set.l1v x5 has x7 (body[i].toNat : Int) (body[i].toNat : Int) S c p q s f = impl_rexReader_set.l0v x5 has1 (wrap64 (x7 + 1)) S c p q s f) (S p q s f) :
    impl_rexReader_set.l0v (B body) has (i : Int) S c p q s f = impl_rexReader_set.l0v (B body) has1 ((i + 1 : Nat) : Int) S c p q s f := by
  have l1 := body[i].toNat_lt
  have w1 : wrap64 ((i : Int) + 1) = ((i + 1 : Nat) : Int) := by rw [wrap_in (by omega) (by omega)]; omega
  have w2 : wrap64 ((i : Int) + 2) = ((i + 2 : Nat) : Int) := by rw [wrap_in (by omega) (by omega)]; omega
  have b0 : bt (B body) (i : Int) = (body[i].toNat : Int) := B_bt body i hi
  have hs : ((B body).size : Int) = (body.length : Int) := by rw [B_size]
  have c1 : (i : Int) < (body.length : Int) := by omega
  have c2 : (0 : Int) ≤ (i : Int) := by omega
  have wu : wrap64 (body[i].toNat : Int) = (body[i].toNat : Int) := wrap_in (by omega) (by omega)
  have hj : impl_rexReader_set.j1v (B body) has (i : Int) (body[i].toNat : Int) (body[i].toNat : Int) false S c p q s f = impl_rexReader_set.l0v (B body) has1 ((i + 1 : Nat) : Int) S c p q s f := by
    rw [impl_rexReader_set.j1v_eq]
    simp only [Bool.false_eq_true, if_false]
    rw [impl_rexReader_set.j2v_eq, g2, w1]
  rw [impl_rexReader_set.l0v_eq]
  by_cases h5 : i + 2 < body.length
  · have c3 : ((i + 2 : Nat) : Int) < (body.length : Int) := by omega
    have c4 : (0 : Int) ≤ ((i + 1 : Nat) : Int) := by omega
    have c5 : ((i + 1 : Nat) : Int) < (body.length : Int) := by omega
    have b1 : (bt (B body) ((i + 1 : Nat) : Int) == 45) = false := by
      rw [B_bt body (i + 1) (by omega), beq_eq_false_iff_ne]
      exact fun e => hR h5 ((byte_is _ 45 45 rfl).1 e)
    simp only [hs, w1, w2, c1, c2, c3, c4, c5, b0, b1, wu, if_true, hj]
  · have c3 : ¬ ((i + 2 : Nat) : Int) < (body.length : Int) := by omega
    simp only [hs, w2, c1, c2, c3, b0, wu, if_true, if_false, hj]

theorem wr (a b : Nat) (k : Int) (h : (b : Int) = (a : Int) + k) (hb : b ≤ 1000) : wrap64 ((a : Int) + k) = (b : Int) := by rw [wrap_in (by omega) (by omega)]; omega
theorem wrap_byte (u : UInt8) : wrap64 (u.toNat : Int) = (u.toNat : Int) := by
  have := u.toNat_lt
  exact wrap_in (by omega) (by omega)
theorem not93 (u : UInt8) (hu : u ≠ 93) : ((u.toNat : Int) != 93) = true := by rw [bne_iff_ne]; exact fun e => hu ((byte_is _ 93 93 rfl).1 e)
theorem spec_range (T : List UInt8) (h60 : T.length ≤ 60) (a a1 a2 a3 : Nat) (e1 : a1 = a + 1) (e2 : a2 = a + 2) (e3 : a3 = a + 3) (hN : a2 < T.length) (u v : UInt8) (b0 : bt (B T) (a : Int) = (u.toNat : Int)) (b1 : bt (B T) (a1 : Int) = 45) (b2 : bt (B T) (a2 : Int) = (v.toNat : Int)) (hu : u ≠ 93) (hv : v ≠ 93)
    (has has1 : List Bool) (many : Nat) (hm : many ≤ 100) (c : Bool)
    (g3 : ∀ m T a c p q s f, spec_l3Set.l1v has m (v.toNat : Int) (u.toNat : Int) T a c p q s f = spec_l3Set.l0v has1 (wrap64 (m + 1)) T a c p q s f) (p q s f) :
    spec_l3Set.l0v has (many : Int) (B T) (a : Int) c p q s f = spec_l3Set.l0v has1 ((many + 1 : Nat) : Int) (B T) (a3 : Int) (c || decide ((v.toNat : Int) < (u.toNat : Int))) p q s f := by
  have c1 : (a : Int) < (T.length : Int) := by clear b0 b1 b2; omega
  have c2 : (0 : Int) ≤ (a : Int) := by clear b0 b1 b2; omega
  have c3 : (a2 : Int) < (T.length : Int) := by clear b0 b1 b2; omega
  have c4 : (0 : Int) ≤ (a1 : Int) := by clear b0 b1 b2; omega
  have c5 : (a1 : Int) < (T.length : Int) := by clear b0 b1 b2; omega
  have c6 : (0 : Int) ≤ (a2 : Int) := by clear b0 b1 b2; omega
  have w3 : wrap64 ((a : Int) + 1) = (a1 : Int) := wr a a1 1 (by clear b0 b1 b2; omega) (by clear b0 b1 b2; omega)
  have w4 : wrap64 ((a1 : Int) + 1) = (a2 : Int) := wr a1 a2 1 (by clear b0 b1 b2 w3; omega) (by clear b0 b1 b2 w3; omega)
  have w5 : wrap64 ((a1 : Int) + 2) = (a3 : Int) := wr a1 a3 2 (by clear b0 b1 b2 w3 w4; omega) (by clear b0 b1 b2 w3 w4; omega)
  have w6 : wrap64 ((many : Int) + 1) = ((many + 1 : Nat) : Int) := wr many (many + 1) 1 (by clear b0 b1 b2 w3 w4 w5; omega) (by clear b0 b1 b2 w3 w4 w5; omega)
  clear e1 e2 e3 hN hm
  have wu : wrap64 (u.toNat : Int) = (u.toNat : Int) := wrap_byte u
  have wv : wrap64 (v.toNat : Int) = (v.toNat : Int) := wrap_byte v
  have du : ((u.toNat : Int) != 93) = true := not93 u hu
  have dv : ((v.toNat : Int) != 93) = true := not93 v hv
  have hs : ((B T).size : Int) = (T.length : Int) := by rw [B_size]
  rw [spec_l3Set.l0v_eq]
  simp only [hs, c1, c2, b0, du, if_true]
  rw [spec_l3Set.j2v_eq]
  simp only [hs, c1, c2, w3, w4, c3, c4, c5, c6, b0, b1, b2, dv, wu, if_true]
  rw [spec_l3Set.j3v_eq]
  simp only [hs, w4, c3, c6, b2, wv, w5, if_true]
  rw [spec_l3Set.j4v_eq]
  by_cases hlh : (v.toNat : Int) < (u.toNat : Int)
  · simp only [hlh, if_true, decide_true, Bool.or_true]
    rw [spec_l3Set.j5v_eq, g3, w6]
  · simp only [hlh, if_false, decide_false, Bool.or_false]
    rw [spec_l3Set.j5v_eq, g3, w6]
theorem spec_byte (T : List UInt8) (h60 : T.length ≤ 60) (P i : Nat) (hN : P + i < T.length) (u : UInt8) (b0 : bt (B T) ((P + i : Nat) : Int) = (u.toNat : Int)) (hu : u ≠ 93)
    (hR : P + (i + 2) < T.length → bt (B T) ((P + (i + 1) : Nat) : Int) = 45 → bt (B T) ((P + (i + 2) : Nat) : Int) = 93)
    (has has1 : List Bool) (many : Nat) (hm : many ≤ 100) (c : Bool)
    (g3 : ∀ m T a c p q s f, spec_l3Set.l1v has m (u.toNat : Int) (u.toNat : Int) T a c p q s f = spec_l3Set.l0v has1 (wrap64 (m + 1)) T a c p q s f) (p q s f) :
    spec_l3Set.l0v has (many : Int) (B T) ((P + i : Nat) : Int) c p q s f = spec_l3Set.l0v has1 ((many + 1 : Nat) : Int) (B T) ((P + (i + 1) : Nat) : Int) c p q s f := by
  have l1 := u.toNat_lt
  have w3 : wrap64 (((P + i : Nat) : Int) + 1) = ((P + (i + 1) : Nat) : Int) := by
    have e_ : ((P + i : Nat) : Int) + 1 = ((P + (i + 1) : Nat) : Int) := by omega
    rw [e_]
    exact wrap_in (by omega) (by omega)
  have w4 : wrap64 (((P + (i + 1) : Nat) : Int) + 1) = ((P + (i + 2) : Nat) : Int) := by
    have e_ : ((P + (i + 1) : Nat) : Int) + 1 = ((P + (i + 2) : Nat) : Int) := by omega
    rw [e_]
    exact wrap_in (by omega) (by omega)
  have w6 : wrap64 ((many : Int) + 1) = ((many + 1 : Nat) : Int) := by rw [wrap_in (by omega) (by omega)]; omega
  have wu : wrap64 (u.toNat : Int) = (u.toNat : Int) := wrap_in (by omega) (by omega)
  have du : ((u.toNat : Int) != 93) = true := by rw [bne_iff_ne]; exact fun e => hu ((byte_is _ 93 93 rfl).1 e)
  have hs : ((B T).size : Int) = (T.length : Int) := by rw [B_size]
  have c1 : ((P + i : Nat) : Int) < (T.length : Int) := by omega
  have c2 : (0 : Int) ≤ ((P + i : Nat) : Int) := by omega
  have c0 : ¬ (u.toNat : Int) < (u.toNat : Int) := by omega
  have hj : spec_l3Set.j3v has (many : Int) (u.toNat : Int) (u.toNat : Int) false (B T) ((P + (i + 1) : Nat) : Int) c p q s f = spec_l3Set.l0v has1 ((many + 1 : Nat) : Int) (B T) ((P + (i + 1) : Nat) : Int) c p q s f := by
    rw [spec_l3Set.j3v_eq]
    simp only [Bool.false_eq_true, if_false]
    rw [spec_l3Set.j4v_eq, if_neg c0, spec_l3Set.j5v_eq, g3, w6]
  rw [spec_l3Set.l0v_eq]
  simp only [hs, c1, c2, b0, du, if_true]
  rw [spec_l3Set.j2v_eq]
  by_cases h5 : P + (i + 2) < T.length
  · have c3 : ((P + (i + 2) : Nat) : Int) < (T.length : Int) := by omega
    have c4 : (0 : Int) ≤ ((P + (i + 1) : Nat) : Int) := by omega
    have c5 : ((P + (i + 1) : Nat) : Int) < (T.length : Int) := by omega
    have c6 : (0 : Int) ≤ ((P + (i + 2) : Nat) : Int) := by omega
    by_cases h7 : bt (B T) ((P + (i + 1) : Nat) : Int) = 45
    · have h8 : ((93 : Int) != 93) = false := rfl
      simp only [hs, c1, c2, w3, w4, c3, c4, c5, c6, b0, h7, hR h5 h7, h8, wu, if_true, hj]
    · simp only [hs, c1, c2, w3, w4, c3, c4, c5, b0, h7, wu, if_true, if_false, hj]
  · have c3 : ¬ ((P + (i + 2) : Nat) : Int) < (T.length : Int) := by omega
    simp only [hs, c1, c2, w3, w4, c3, b0, wu, if_true, if_false, hj]
theorem spec_last (T pre body rest : List UInt8) (hT : T = pre ++ (body ++ rest)) (hr : rest = [] ∨ ∃ r2, rest = 93 :: r2) (has : List Bool) (m : Int) (c : Bool) (p q s f) :
    spec_l3Set.l0v has m (B T) ((pre.length + body.length : Nat) : Int) c p q s f = spec_l3Set.j2v has m false (B T) ((pre.length + body.length : Nat) : Int) c p q s f := by
  have hlen : T.length = pre.length + (body.length + rest.length) := by rw [hT, List.length_append, List.length_append]
  rw [spec_l3Set.l0v_eq]
  rcases hr with e | ⟨r2, e⟩
  · rw [if_neg (by rw [B_size, hlen, e, List.length_nil]; omega)]
  · rw [if_pos (by rw [B_size, hlen, e, List.length_cons]; omega), if_pos (by omega), place_end T pre body r2 (by rw [hT, e])]
    rfl
theorem set_run (T pre body rest : List UInt8) (hT : T = pre ++ (body ++ rest)) (h60 : T.length ≤ 60) (hb : (93 : UInt8) ∉ body) (hr : rest = [] ∨ ∃ r2, rest = 93 :: r2) (n : Nat) : ∀ (i many : Nat) (has : List Bool) (c : Bool), body.length - i ≤ n → i ≤ body.length → has.length = 256 → many ≤ i → (0 < i → 0 < many) →
    ∃ (has' : List Bool) (m' : Nat) (c' : Bool), has'.length = 256 ∧ m' ≤ body.length ∧ (0 < body.length → 0 < m') ∧
      (∀ S p q s f, impl_rexReader_set.l0v (B body) has (i : Int) S c p q s f = impl_rexReader_set.l2v [] has' 256 0 S c' p q s f) ∧
      (∀ p q s f, spec_l3Set.l0v has (many : Int) (B T) ((pre.length + i : Nat) : Int) c p q s f = spec_l3Set.j2v has' (m' : Int) false (B T) ((pre.length + body.length : Nat) : Int) c' p q s f) := by
  have hlen : T.length = pre.length + (body.length + rest.length) := by rw [hT, List.length_append, List.length_append]
  have hp := place_body T pre body rest hT
  induction n with
  | zero =>
    intro i many has c h0 h1 h2 h3 h4
    obtain rfl : i = body.length := by omega
    refine ⟨has, many, c, h2, h3, h4, fun S p q s f => ?_, fun p q s f => spec_last T pre body rest hT hr has _ c p q s f⟩
    rw [impl_rexReader_set.l0v_eq, if_neg (by rw [B_size]; omega), h2]
    rfl
  | succ n ih =>
    intro i many has c h0 h1 h2 h3 h4
    by_cases hi : i < body.length
    · have hne : body[i] ≠ 93 := fun e => hb (e ▸ List.getElem_mem hi)
      have hl := body[i].toNat_lt
      by_cases hR : ∃ h : i + 2 < body.length, body[i + 1]'(by omega) = 45
      · obtain ⟨hR1, hR3⟩ := hR
        have hne2 : body[i + 2] ≠ 93 := fun e => hb (e ▸ List.getElem_mem hR1)
        have hl2 := body[i + 2].toNat_lt
        obtain ⟨has1, g1, g2, g3⟩ := mark_both _ has (body[i].toNat : Int) (body[i + 2].toNat : Int) rfl (by omega) (by omega) h2
        obtain ⟨has', m', c', k1, k2, k3, k4, k5⟩ := ih (i + 3) (many + 1) has1 (c || decide ((body[i + 2].toNat : Int) < (body[i].toNat : Int))) (by omega) (by omega) g1 (by omega) (by omega)
        refine ⟨has', m', c', k1, k2, k3, fun S p q s f => ?_, fun p q s f => ?_⟩
        · rw [impl_range body (by omega) i hR1 hR3 has has1 c g2, k4]
        · rw [spec_range T h60 (pre.length + i) (pre.length + (i + 1)) (pre.length + (i + 2)) (pre.length + (i + 3)) (by omega) (by omega) (by omega) (by omega) body[i] body[i + 2] (hp i hi) (by rw [hp (i + 1) (by omega), hR3]; rfl) (hp (i + 2) hR1) hne hne2 has has1 many (by omega) c g3, k5]
      · obtain ⟨has1, g1, g2, g3⟩ := mark_both _ has (body[i].toNat : Int) (body[i].toNat : Int) rfl (by omega) (by omega) h2
        obtain ⟨has', m', c', k1, k2, k3, k4, k5⟩ := ih (i + 1) (many + 1) has1 c (by omega) (by omega) g1 (by omega) (by omega)
        refine ⟨has', m', c', k1, k2, k3, fun S p q s f => ?_, fun p q s f => ?_⟩
        · rw [impl_byte body (by omega) i hi (fun h e => hR ⟨h, e⟩) has has1 c g2, k4]
        · rw [spec_byte T h60 pre.length i (by omega) body[i] (hp i hi) hne (fun h5 h7 => ?_) has has1 many (by omega) c g3, k5]
          by_cases h9 : i + 1 < body.length
          · have h10 : body[i + 1] = 45 := by
              rw [hp (i + 1) h9] at h7
              exact (byte_is _ 45 45 rfl).1 h7
            have h11 : i + 2 = body.length := by
              by_cases h12 : i + 2 < body.length
              · exact absurd ⟨h12, h10⟩ hR
              · omega
            rcases hr with e | ⟨r2, e⟩
            · rw [e, List.length_nil] at hlen; omega
            · rw [h11, place_end T pre body r2 (by rw [hT, e])]
          · exfalso
            have h11 : i + 1 = body.length := by omega
            rcases hr with e | ⟨r2, e⟩
            · rw [e, List.length_nil] at hlen; omega
            · rw [h11, place_end T pre body r2 (by rw [hT, e])] at h7
              omega
    · exact ih i many has c (by omega) h1 h2 h3 h4

/-! ### both readers' answers -/
/-- both ask alike how deep a tree is -/
def Good (x : S115) : Prop := ∃ v, spec_l3Deep.fv x.f0 x.f1 x.f2 x.f3 x.f4 = some v ∧ impl_rexDeep.fv x.f0 x.f1 x.f2 x.f3 x.f4 = some v
theorem max_both (a b : Int) : spec_l1Max.f a b = some (mx a b) := by
  unfold spec_l1Max.f mx
  by_cases h : a > b
  · rw [if_pos h]
    split <;> first | rfl | (congr 1; omega)
  · rw [if_neg h]
    split <;> first | rfl | (congr 1; omega)
theorem deep_loop (xs : List S115) (hl : xs.length ≤ 1000) (hg : ∀ x ∈ xs, Good x) (n : Nat) : ∀ (i : Nat) (m : Int), xs.length - i = n → ∃ v, (∀ a b c e, spec_l3Deep.l0v m (i : Int) a b c e xs = some v) ∧ impl_rexDeep.l0v m xs (xs.length : Int) (i : Int) = some v := by
  induction n with
  | zero =>
    intro i m h
    refine ⟨wrap64 (m + 1), fun a b c e => ?_, ?_⟩
    · rw [spec_l3Deep.l0v_eq, if_neg (by omega)]
    · rw [impl_rexDeep.l0v_eq, if_neg (by omega)]
  | succ n ih =>
    intro i m h
    have hi : i < xs.length := by omega
    have hw : wrap64 ((i : Int) + 1) = ((i + 1 : Nat) : Int) := wr i (i + 1) 1 (by omega) (by omega)
    obtain ⟨v, e1, e2⟩ := hg _ (List.getElem_mem hi)
    have hrd : rd_T115 xs (i : Int) = xs[i] := by
      unfold rd_T115
      simp [List.getD, List.getElem?_eq_getElem hi]
    obtain ⟨u, k1, k2⟩ := ih (i + 1) (mx m v) (by omega)
    refine ⟨u, fun a b c e => ?_, ?_⟩
    · rw [spec_l3Deep.l0v_eq, if_pos (by omega), if_pos (by omega), hrd, e1, Option.bind_some, max_both, Option.bind_some, hw, k1]
    · rw [impl_rexDeep.l0v_eq, if_pos (by omega), if_pos (by omega), if_pos (by omega), hrd, e2, Option.bind_some, hw, k2]
theorem good_node (a b : Int) (c : ByteArray) (e : Bool) (xs : List S115) (hl : xs.length ≤ 1000) (hg : ∀ x ∈ xs, Good x) : Good (⟨a, b, c, e, xs⟩ : S115) := by
  obtain ⟨v, h1, h2⟩ := deep_loop xs hl hg _ 0 0 rfl
  refine ⟨v, ?_, ?_⟩
  · show spec_l3Deep.fv a b c e xs = some v
    rw [spec_l3Deep.fv_eq]
    exact h1 a b c e
  · show impl_rexDeep.fv a b c e xs = some v
    rw [impl_rexDeep.fv_eq]
    exact h2
theorem good_leaf (a b : Int) (c : ByteArray) (e : Bool) : Good (⟨a, b, c, e, []⟩ : S115) := good_node a b c e [] (by simp) (by simp)
def Out (T l : List UInt8) (d k : Nat) (so : Option (Int × Int × ByteArray × Bool × List S115 × ByteArray × Int × Bool)) (io : Option (Int × Int × ByteArray × Bool × List S115 × ByteArray × Bool)) : Prop :=
  (∃ x l' p, l = p ++ l' ∧ k ≤ p.length ∧ Good x ∧ SR T so x (pl T l') false ∧ IR io x l' false) ∨
  (∃ x y l' a, SR T so x a true ∧ IR io y l' true) ∨
  (∃ x y l' a, l'.length < d ∧ l'.length + k ≤ l.length ∧ Good y ∧ SR T so x a true ∧ IR io y l' false)
theorem out_cons {T l : List UInt8} {c : UInt8} {d k k' : Nat} {so io} (h : Out T l d k so io) (hk : k' ≤ k + 1) : Out T (c :: l) d k' so io := by
  rcases h with ⟨x, l', p, e, h1, h2⟩ | h | ⟨x, y, l', a, h1, h2, h3⟩
  · exact .inl ⟨x, l', c :: p, by rw [e, List.cons_append], by rw [List.length_cons]; omega, h2⟩
  · exact .inr (.inl h)
  · exact .inr (.inr ⟨x, y, l', a, h1, by rw [List.length_cons]; omega, h3⟩)
theorem out_app {T l l' p : List UInt8} {d k k' : Nat} {so io} (e : l = p ++ l') (h : Out T l' d k so io) (hk : k' ≤ k + p.length) : Out T l d k' so io := by
  subst e
  rcases h with ⟨x, l2, p2, e, h1, h2⟩ | h | ⟨x, y, l2, a, h1, h2, h3⟩
  · exact .inl ⟨x, l2, p ++ p2, by rw [e, List.append_assoc], by rw [List.length_append]; omega, h2⟩
  · exact .inr (.inl h)
  · exact .inr (.inr ⟨x, y, l2, a, h1, by rw [List.length_append]; omega, h3⟩)
theorem ctx_app {T l l' p : List UInt8} {d : Nat} (h : Ctx T l d) (e : l = p ++ l') : Ctx T l' d := by
  have := ctx_drop h p.length
  rw [e, List.drop_left] at this
  exact this
theorem ctx_self (l : List UInt8) (h : l.length ≤ 60) : Ctx l l 0 := ⟨[], rfl, Nat.zero_le _, h⟩
theorem after_close (a r : List UInt8) : (B (a ++ 93 :: r)).extract (((a.length + 1 : Nat) : Int)).toNat (B (a ++ 93 :: r)).size = B r := by
  have e1 : (a ++ 93 :: r).drop (a.length + 1) = r := by
    rw [show a ++ 93 :: r = (a ++ [93]) ++ r by simp]
    exact List.drop_left' (by simp)
  rw [Int.toNat_natCast, B_extract, B_size, e1]
  congr 1
  apply List.take_of_length_le
  rw [List.length_append, List.length_cons]
  omega
theorem set_core (T l : List UInt8) (d : Nat) (h : Ctx T l d) (neg : Bool) : Out T l d 0 (spec_l3Set.j0v (B T) (pl T l) false 3 0 (⟨#[]⟩ : ByteArray) neg)
    ((strings_IndexByte.f (B l) 93).bind fun t324 => (if t324 < 1 then (some (0, 0, (⟨#[]⟩ : ByteArray), false, ([] : List (S115)), B l, true)) else (if 0 ≤ t324 then (if t324 ≤ ((B l).size : Int) then (if 0 ≤ (wrap64 (t324 + 1)) then (if (wrap64 (t324 + 1)) ≤ ((B l).size : Int) then (if 256 ≤ 281474976710656 then (impl_rexReader_set.l0v ((B l).extract 0 (t324 : Int).toNat) (List.replicate 256 false) 0 ((B l).extract ((wrap64 (t324 + 1)) : Int).toNat (B l).size) false 3 0 (⟨#[]⟩ : ByteArray) neg) else (none)) else (none)) else (none)) else (none)) else (none)))) := by
  obtain ⟨pre, hT, hd, h60⟩ := h
  have hlen : T.length = pre.length + l.length := by rw [hT, List.length_append]
  have hpl : pl T l = ((pre.length + 0 : Nat) : Int) := by unfold pl; omega
  rw [hpl, spec_l3Set.j0v_eq, if_pos (by omega)]
  show Out T l d 0 _ ((some (Lib.indexByte (B l).data.toList 93)).bind _)
  rw [Option.bind_some, B_data]
  rcases idx_close l with ⟨e, hn⟩ | ⟨a, r, e, hn, hk⟩
  · obtain ⟨has', m', c', k1, k2, k3, -, k5⟩ := set_run T pre l [] (by rw [List.append_nil]; exact hT) h60 hn (.inl rfl) _ 0 0 (List.replicate 256 false) false (Nat.le_refl _) (Nat.zero_le _) (List.length_replicate ..) (Nat.le_refl _) (fun z => absurd z (Nat.lt_irrefl 0))
    obtain ⟨out', -, o2⟩ := out_both has' k1 _ 0 [] rfl (by omega) (by simp)
    have k5' := k5 3 0 (⟨#[]⟩ : ByteArray) neg
    rw [show ((0 : Nat) : Int) = 0 from rfl] at k5' o2
    rw [k5', spec_l3Set.j2v_eq, if_neg (by decide), if_pos (by rw [B_size]; omega), spec_l3Set.j7v_eq, if_pos rfl, spec_l3Set.j8v_eq, o2, e, if_pos (by decide)]
    exact .inr (.inl ⟨(⟨_, _, _, _, _⟩ : S115), (⟨_, _, _, _, _⟩ : S115), l, _, rfl, rfl⟩)
  · obtain ⟨has', m', c', k1, k2, k3, k4, k5⟩ := set_run T pre a (93 :: r) (by rw [hT, e]) h60 hn (.inr ⟨r, rfl⟩) _ 0 0 (List.replicate 256 false) false (Nat.le_refl _) (Nat.zero_le _) (List.length_replicate ..) (Nat.le_refl _) (fun z => absurd z (Nat.lt_irrefl 0))
    obtain ⟨out', o1, o2⟩ := out_both has' k1 _ 0 [] rfl (by omega) (by simp)
    have hl : l.length = a.length + (r.length + 1) := by rw [e, List.length_append, List.length_cons]
    have k5' := k5 3 0 (⟨#[]⟩ : ByteArray) neg
    have k4' := k4 (B r) 3 0 (⟨#[]⟩ : ByteArray) neg
    rw [show ((0 : Nat) : Int) = 0 from rfl] at k5' k4' o1 o2
    rw [k5', spec_l3Set.j2v_eq, if_neg (by decide), if_neg (by rw [B_size]; omega), spec_l3Set.j7v_eq, hk]
    by_cases h0 : a.length = 0
    · have hm : m' = 0 := by omega
      subst hm
      rw [if_pos (by rfl), spec_l3Set.j8v_eq, o2, if_pos (by omega)]
      exact .inr (.inl ⟨(⟨_, _, _, _, _⟩ : S115), (⟨_, _, _, _, _⟩ : S115), l, _, rfl, rfl⟩)
    · have hm := k3 (by omega)
      have x1 : (B l).extract 0 ((a.length : Nat) : Int).toNat = B a := by rw [Int.toNat_natCast, B_extract, e]; simp
      have x2 : (B l).extract (((a.length + 1 : Nat) : Int)).toNat (B l).size = B r := by rw [e]; exact after_close a r
      have y1 : ¬ ((m' : Int) == 0) = true := by rw [beq_iff_eq]; omega
      have y2 : ¬ (a.length : Int) < 1 := by omega
      have y3 : (0 : Int) ≤ (a.length : Int) := by omega
      have y4 : (a.length : Int) ≤ ((B l).size : Int) := by rw [B_size]; omega
      have y5 : (0 : Int) ≤ ((a.length + 1 : Nat) : Int) := by omega
      have y6 : ((a.length + 1 : Nat) : Int) ≤ ((B l).size : Int) := by rw [B_size]; omega
      have y7 : pl T r = ((pre.length + a.length + 1 : Nat) : Int) := by unfold pl; omega
      have w2 : wrap64 ((a.length : Int) + 1) = ((a.length + 1 : Nat) : Int) := wr a.length (a.length + 1) 1 (by omega) (by omega)
      have w1 : wrap64 (((pre.length + a.length : Nat) : Int) + 1) = pl T r := by
        rw [y7]
        exact wr (pre.length + a.length) (pre.length + a.length + 1) 1 (by clear w2; omega) (by clear w2; omega)
      rw [if_neg y1, spec_l3Set.j8v_eq, o2, if_neg y2, if_pos y3, if_pos y4, w2, if_pos y5, if_pos y6, if_pos (by decide), x1, x2, k4', o1, w1]
      cases c'
      · exact .inl ⟨(⟨_, _, _, _, _⟩ : S115), r, a ++ [93], by rw [e]; simp, Nat.zero_le _, good_leaf _ _ _ _, rfl, rfl⟩
      · exact .inr (.inl ⟨(⟨_, _, _, _, _⟩ : S115), (⟨_, _, _, _, _⟩ : S115), r, _, rfl, rfl⟩)
theorem set_sim (T l : List UInt8) (d : Nat) (h : Ctx T l d) : Out T l d 0 (spec_l3Set.fv (B T) (pl T l) false) (impl_rexReader_set.fv (B l) false) := by
  rw [spec_l3Set.fv_eq, impl_rexReader_set.fv_eq]
  cases l with
  | nil =>
    rw [now_end, take_nil]
    exact set_core T [] d h false
  | cons c l =>
    rw [now_cons h]
    by_cases hc : (c.toNat : Int) = 94
    · rw [take_hit c l 94 hc, Option.bind_some, Option.bind_some]
      dsimp only
      rw [if_pos (by rw [hc]; rfl), ctx_next h]
      exact out_cons (set_core T l d (ctx_tail h) true) (by omega)
    · rw [take_miss c l 94 hc, Option.bind_some, Option.bind_some]
      dsimp only
      rw [if_neg (by rw [beq_iff_eq]; exact hc)]
      exact set_core T (c :: l) d h false

/-! ### one atom -/
def PatS (T l : List UInt8) (d : Nat) : Prop := Out T l d 0 (spec_l3Pattern.fv (B T) (pl T l) false (d : Int)) (impl_rexReader_pattern.fv (B l) false)
def AtomS (T l : List UInt8) (d : Nat) : Prop := Out T l d 1 (spec_l3Atom.fv (B T) (pl T l) false (d : Int)) (impl_rexReader_atom.fv (B l) false)
def PieceS (T l : List UInt8) (d : Nat) : Prop := Out T l d 1 (spec_l3Piece.fv (B T) (pl T l) false (d : Int)) (impl_rexReader_piece.fv (B l) false)
def PartS (T l : List UInt8) (d : Nat) : Prop := Out T l d 0 (spec_l3Part.fv (B T) (pl T l) false (d : Int)) (impl_rexReader_part.fv (B l) false)
theorem out_leaf (T : List UInt8) (c : UInt8) (l : List UInt8) (d : Nat) (a b : Int) (s : ByteArray) (e : Bool) : Out T (c :: l) d 1 (some (a, b, s, e, [], B T, pl T l, false)) (some (a, b, s, e, [], B l, false)) :=
  .inl ⟨(⟨a, b, s, e, []⟩ : S115), l, [c], rfl, Nat.le_refl _, good_leaf _ _ _ _, rfl, rfl⟩
theorem out_bad (T l l' : List UInt8) (d k : Nat) (a b a2 b2 at_ : Int) (s s2 : ByteArray) (e e2 : Bool) (xs ys : List S115) : Out T l d k (some (a, b, s, e, xs, B T, at_, true)) (some (a2, b2, s2, e2, ys, B l', true)) :=
  .inr (.inl ⟨(⟨a, b, s, e, xs⟩ : S115), (⟨a2, b2, s2, e2, ys⟩ : S115), l', at_, rfl, rfl⟩)
theorem atom_brackets (T : List UInt8) (c : UInt8) (l : List UInt8) (d : Nat) (h : Ctx T (c :: l) d) (hp : PatS T l (d + 1)) : Out T (c :: l) d 1
    ((spec_l3Pattern.fv (B T) (pl T l) false ((d + 1 : Nat) : Int)).bind fun bt124 => ((spec_l3Now.f bt124.2.2.2.2.2.1 bt124.2.2.2.2.2.2.1 bt124.2.2.2.2.2.2.2 41).bind fun bt135 => (if bt135.1 = true then (some (bt124.1, bt124.2.1, bt124.2.2.1, bt124.2.2.2.1, bt124.2.2.2.2.1, bt135.2.1, wrap64 (bt135.2.2.1 + 1), bt135.2.2.2)) else (some (bt124.1, bt124.2.1, bt124.2.2.1, bt124.2.2.2.1, bt124.2.2.2.2.1, bt135.2.1, wrap64 (bt135.2.2.1 + 1), true)))))
    ((impl_rexReader_pattern.fv (B l) false).bind fun bt341 => ((impl_rexReader_take.f bt341.2.2.2.2.2.1 bt341.2.2.2.2.2.2 41).bind fun bt351 => (if bt351.1 = true then (some (bt341.1, bt341.2.1, bt341.2.2.1, bt341.2.2.2.1, bt341.2.2.2.2.1, bt351.2.1, bt351.2.2)) else (some (bt341.1, bt341.2.1, bt341.2.2.1, bt341.2.2.2.1, bt341.2.2.2.2.1, bt351.2.1, true))))) := by
  have h1 := ctx_tail h
  rcases hp with ⟨x, l', p, e, -, hg, hs, hi⟩ | ⟨x, y, l', a, hs, hi⟩ | ⟨x, y, l', a, hlt, hle, hg, hs, hi⟩
  · rw [show _ = _ from hs, show _ = _ from hi, Option.bind_some, Option.bind_some]
    dsimp only
    have h2 : Ctx T l' d := ctx_app h1 e
    cases l' with
    | nil =>
      rw [now_end, take_nil, Option.bind_some, Option.bind_some]
      dsimp only
      rw [if_neg (by decide), if_neg (by decide)]
      exact out_bad ..
    | cons c' l' =>
      rw [now_cons h2]
      by_cases hc : (c'.toNat : Int) = 41
      · rw [take_hit c' l' 41 hc, Option.bind_some, Option.bind_some]
        dsimp only
        rw [if_pos (by rw [hc]; rfl), if_pos rfl, ctx_next h2]
        exact .inl ⟨x, l', c :: p ++ [c'], by rw [e]; simp, by simp, hg, rfl, rfl⟩
      · rw [take_miss c' l' 41 hc, Option.bind_some, Option.bind_some]
        dsimp only
        rw [if_neg (by rw [beq_iff_eq]; exact hc), if_neg (by decide)]
        exact out_bad ..
  · rw [show _ = _ from hs, show _ = _ from hi, Option.bind_some, Option.bind_some]
    dsimp only
    rw [now_bad, take_bad, Option.bind_some, Option.bind_some]
    dsimp only
    rw [if_neg (by decide), if_neg (by decide)]
    exact out_bad ..
  · rw [show _ = _ from hs, show _ = _ from hi, Option.bind_some, Option.bind_some]
    dsimp only
    rw [now_bad, Option.bind_some]
    dsimp only
    rw [if_neg (by decide)]
    cases l' with
    | nil =>
      rw [take_nil, Option.bind_some]
      dsimp only
      rw [if_neg (by decide)]
      exact out_bad ..
    | cons c' l' =>
      by_cases hc : (c'.toNat : Int) = 41
      · rw [take_hit c' l' 41 hc, Option.bind_some]
        dsimp only
        rw [if_pos rfl]
        rw [List.length_cons] at hlt hle
        exact .inr (.inr ⟨x, y, l', _, by omega, by rw [List.length_cons]; omega, hg, rfl, rfl⟩)
      · rw [take_miss c' l' 41 hc, Option.bind_some]
        dsimp only
        rw [if_neg (by decide)]
        exact out_bad ..
theorem atom_set (T : List UInt8) (c : UInt8) (l : List UInt8) (d : Nat) (h : Ctx T (c :: l) d) : Out T (c :: l) d 1
    ((spec_l3Set.fv (B T) (pl T l) false).bind fun bt139 => (some (bt139.1, bt139.2.1, bt139.2.2.1, bt139.2.2.2.1, bt139.2.2.2.2.1, bt139.2.2.2.2.2.1, bt139.2.2.2.2.2.2.1, bt139.2.2.2.2.2.2.2)))
    ((impl_rexReader_set.fv (B l) false).bind fun bt354 => (some (bt354.1, bt354.2.1, bt354.2.2.1, bt354.2.2.2.1, bt354.2.2.2.2.1, bt354.2.2.2.2.2.1, bt354.2.2.2.2.2.2))) := by
  have e1 : ∀ o : Option (Int × Int × ByteArray × Bool × List S115 × ByteArray × Int × Bool), (o.bind fun bt139 => (some (bt139.1, bt139.2.1, bt139.2.2.1, bt139.2.2.2.1, bt139.2.2.2.2.1, bt139.2.2.2.2.2.1, bt139.2.2.2.2.2.2.1, bt139.2.2.2.2.2.2.2))) = o := fun o => by cases o <;> rfl
  have e2 : ∀ o : Option (Int × Int × ByteArray × Bool × List S115 × ByteArray × Bool), (o.bind fun bt354 => (some (bt354.1, bt354.2.1, bt354.2.2.1, bt354.2.2.2.1, bt354.2.2.2.2.1, bt354.2.2.2.2.2.1, bt354.2.2.2.2.2.2))) = o := fun o => by cases o <;> rfl
  rw [e1, e2]
  exact out_cons (set_sim T l d (ctx_tail h)) (Nat.le_refl _)
theorem atom_escape (T : List UInt8) (c : UInt8) (l : List UInt8) (d : Nat) (h : Ctx T (c :: l) d) : Out T (c :: l) d 1
    (if (pl T l) ≥ ((B T).size : Int) then (some (0, 0, (⟨#[]⟩ : ByteArray), false, ([] : List (S115)), B T, pl T l, true)) else (if 0 ≤ pl T l then (if pl T l < ((B T).size : Int) then (some (1, wrap64 (bt (B T) (pl T l)), (⟨#[]⟩ : ByteArray), false, ([] : List (S115)), B T, wrap64 (pl T l + 1), false)) else (none)) else (none)))
    ((impl_rexReader_next.f (B l) false).bind fun bt363 => (if bt363.2.1 = true then (if 1 ≤ (bt363.2.2.1.size : Int) then (some (1, wrap64 (bt363.1), (⟨#[]⟩ : ByteArray), false, ([] : List (S115)), bt363.2.2.1.extract 1 bt363.2.2.1.size, bt363.2.2.2)) else (none)) else (some (0, 0, (⟨#[]⟩ : ByteArray), false, ([] : List (S115)), bt363.2.2.1, true)))) := by
  have h1 := ctx_tail h
  cases l with
  | nil =>
    rw [if_pos (by rw [pl_nil, B_size]; omega), next_nil, Option.bind_some]
    dsimp only
    rw [if_neg (by decide)]
    exact out_bad ..
  | cons c2 l =>
    rw [if_neg (by have := ctx_lt h1; omega), if_pos (pl_ge _ _), if_pos (ctx_lt h1), ctx_bt h1, ctx_next h1, next_cons, Option.bind_some]
    dsimp only
    rw [if_pos rfl, if_pos (one_in c2 l), rest_of]
    exact out_cons (out_leaf T c2 l d 1 (wrap64 (c2.toNat : Int)) (⟨#[]⟩ : ByteArray) false) (by omega)
theorem atom_low (T : List UInt8) (c : UInt8) (l : List UInt8) (d : Nat) (h : Ctx T (c :: l) d) (hd : d ≤ 40) (hp : PatS T l (d + 1)) : AtomS T (c :: l) d := by
  unfold AtomS
  have hw : wrap64 ((d : Int) + 1) = ((d + 1 : Nat) : Int) := wr d (d + 1) 1 (by omega) (by omega)
  have h0 : decide ((d : Int) > 40) = false := decide_eq_false (by omega)
  have hge : ¬ pl T (c :: l) ≥ ((B T).size : Int) := by have := ctx_lt h; omega
  rw [spec_l3Atom.fv_eq, if_neg (by decide), if_neg hge, h0, spec_l3Atom.j0v_eq, if_neg (by decide), if_pos (pl_ge _ _), if_pos (ctx_lt h), ctx_bt h, ctx_next h, hw,
    impl_rexReader_atom.fv_eq, next_cons, Option.bind_some]
  dsimp only
  rw [if_pos (one_in c l), rest_of c l]
  by_cases h40 : (c.toNat : Int) = 40
  · rw [if_pos h40, if_pos h40]
    exact atom_brackets T c l d h hp
  rw [if_neg h40, if_neg h40]
  by_cases h46 : (c.toNat : Int) = 46
  · rw [if_pos h46, if_pos h46]
    exact out_leaf ..
  rw [if_neg h46, if_neg h46]
  by_cases h94 : (c.toNat : Int) = 94
  · rw [if_pos h94, if_pos h94]
    exact out_leaf ..
  rw [if_neg h94, if_neg h94]
  by_cases h36 : (c.toNat : Int) = 36
  · rw [if_pos h36, if_pos h36]
    exact out_leaf ..
  rw [if_neg h36, if_neg h36]
  by_cases h91 : (c.toNat : Int) = 91
  · rw [if_pos h91, if_pos h91]
    exact atom_set T c l d h
  rw [if_neg h91, if_neg h91]
  by_cases h92 : (c.toNat : Int) = 92
  · rw [if_pos h92, if_pos h92]
    exact atom_escape T c l d h
  rw [if_neg h92, if_neg h92]
  by_cases h42 : (c.toNat : Int) = 42
  · rw [if_pos h42, if_pos h42]
    exact out_bad ..
  rw [if_neg h42, if_neg h42]
  by_cases h43 : (c.toNat : Int) = 43
  · rw [if_pos h43, if_pos h43]
    exact out_bad ..
  rw [if_neg h43, if_neg h43]
  by_cases h63 : (c.toNat : Int) = 63
  · rw [if_pos h63, if_pos h63]
    exact out_bad ..
  rw [if_neg h63, if_neg h63]
  exact out_leaf ..
theorem atom_sim (T : List UInt8) (c : UInt8) (l : List UInt8) (d : Nat) (h : Ctx T (c :: l) d) (hp : PatS T l (d + 1)) (hp2 : PatS (c :: l) l 1) : AtomS T (c :: l) d := by
  by_cases hd : d ≤ 40
  · exact atom_low T c l d h hd hp
  · have hlen := ctx_len h
    rw [List.length_cons] at hlen
    have h0 : decide ((d : Int) > 40) = true := decide_eq_true (by omega)
    have hge : ¬ pl T (c :: l) ≥ ((B T).size : Int) := by have := ctx_lt h; omega
    have hs : spec_l3Atom.fv (B T) (pl T (c :: l)) false (d : Int) = some (0, 0, (⟨#[]⟩ : ByteArray), false, ([] : List (S115)), B T, pl T (c :: l), true) := by
      rw [spec_l3Atom.fv_eq, if_neg (by decide), if_neg hge, h0, spec_l3Atom.j0v_eq, if_pos rfl]
    unfold AtomS
    rw [hs]
    rcases atom_low (c :: l) c l 0 (ctx_self _ (by rw [List.length_cons]; omega)) (by omega) hp2 with ⟨x, l', p, e, hk, hg, -, hi⟩ | ⟨x, y, l', a, -, hi⟩ | ⟨x, y, l', a, hlt, _⟩
    · have e2 := congrArg List.length e
      rw [List.length_cons, List.length_append] at e2
      exact .inr (.inr ⟨(⟨0, 0, (⟨#[]⟩ : ByteArray), false, []⟩ : S115), x, l', _, by omega, by rw [List.length_cons]; omega, hg, rfl, hi⟩)
    · exact .inr (.inl ⟨(⟨0, 0, (⟨#[]⟩ : ByteArray), false, []⟩ : S115), y, l', _, rfl, hi⟩)
    · exact absurd hlt (Nat.not_lt_zero _)

/-! ### pieces, parts, patterns -/
theorem eta_ (x : S115) : (⟨x.f0, x.f1, x.f2, x.f3, x.f4⟩ : S115) = x := by cases x; rfl
theorem good_rep (k : Int) (x : S115) (hg : Good x) : Good (⟨k, 0, (⟨#[]⟩ : ByteArray), false, [x]⟩ : S115) :=
  good_node _ _ _ _ [x] (by simp) (fun y hy => by rw [List.mem_singleton] at hy; rw [hy]; exact hg)
theorem piece_loop (l : List UInt8) : ∀ (T : List UInt8) (d : Nat) (x : S115), Ctx T l d → Good x →
    Out T l d 0 (spec_l3Piece.l0v (B T) (pl T l) false x.f0 x.f1 x.f2 x.f3 x.f4) (impl_rexReader_piece.l0v (B l) false x.f0 x.f1 x.f2 x.f3 x.f4) := by
  induction l with
  | nil =>
    intro T d x h hg
    rw [spec_l3Piece.l0v_eq, if_neg (by decide), now_end, Option.bind_some]
    dsimp only
    rw [if_neg (by decide), now_end, Option.bind_some]
    dsimp only
    rw [if_neg (by decide), now_end, Option.bind_some]
    dsimp only
    rw [if_neg (by decide), if_pos rfl, impl_rexReader_piece.l0v_eq, next_nil, Option.bind_some]
    dsimp only
    rw [if_neg (by decide)]
    exact .inl ⟨x, [], [], rfl, Nat.le_refl _, hg, rfl, rfl⟩
  | cons c l ih =>
    intro T d x h hg
    have h1 := ctx_tail h
    rw [spec_l3Piece.l0v_eq, if_neg (by decide), now_cons h, Option.bind_some, impl_rexReader_piece.l0v_eq, next_cons, Option.bind_some]
    dsimp only
    rw [if_pos rfl]
    by_cases h42 : (c.toNat : Int) = 42
    · have hr : impl_repeatOf.f (c.toNat : Int) = some 8 := by unfold impl_repeatOf.f; rw [if_pos h42]
      rw [if_pos (by rw [h42]; rfl), if_neg (by decide), ctx_next h, hr, Option.bind_some, Option.bind_some, if_neg (by decide), if_pos (one_in c l), rest_of, eta_]
      exact out_cons (ih T d (⟨8, 0, (⟨#[]⟩ : ByteArray), false, [x]⟩ : S115) h1 (good_rep 8 x hg)) (by omega)
    rw [if_neg (by rw [beq_iff_eq]; exact h42), now_cons h, Option.bind_some]
    dsimp only
    by_cases h43 : (c.toNat : Int) = 43
    · have hr : impl_repeatOf.f (c.toNat : Int) = some 9 := by unfold impl_repeatOf.f; rw [if_neg h42, if_pos h43]
      rw [if_pos (by rw [h43]; rfl), if_neg (by decide), ctx_next h, hr, Option.bind_some, Option.bind_some, if_neg (by decide), if_pos (one_in c l), rest_of, eta_]
      exact out_cons (ih T d (⟨9, 0, (⟨#[]⟩ : ByteArray), false, [x]⟩ : S115) h1 (good_rep 9 x hg)) (by omega)
    rw [if_neg (by rw [beq_iff_eq]; exact h43), now_cons h, Option.bind_some]
    dsimp only
    by_cases h63 : (c.toNat : Int) = 63
    · have hr : impl_repeatOf.f (c.toNat : Int) = some 10 := by unfold impl_repeatOf.f; rw [if_neg h42, if_neg h43, if_pos h63]
      rw [if_pos (by rw [h63]; rfl), if_neg (by decide), ctx_next h, hr, Option.bind_some, Option.bind_some, if_neg (by decide), if_pos (one_in c l), rest_of, eta_]
      exact out_cons (ih T d (⟨10, 0, (⟨#[]⟩ : ByteArray), false, [x]⟩ : S115) h1 (good_rep 10 x hg)) (by omega)
    have hr : impl_repeatOf.f (c.toNat : Int) = some 0 := by unfold impl_repeatOf.f; rw [if_neg h42, if_neg h43, if_neg h63]
    rw [if_neg (by rw [beq_iff_eq]; exact h63), if_pos rfl, hr, Option.bind_some, if_pos rfl]
    exact .inl ⟨x, c :: l, [], rfl, Nat.le_refl _, hg, rfl, rfl⟩
theorem piece_sim (T : List UInt8) (c : UInt8) (l : List UInt8) (d : Nat) (h : Ctx T (c :: l) d) (ha : AtomS T (c :: l) d) : PieceS T (c :: l) d := by
  unfold PieceS
  rw [spec_l3Piece.fv_eq, impl_rexReader_piece.fv_eq]
  rcases ha with ⟨x, l', p, e, hk, hg, hs, hi⟩ | ⟨x, y, l', a, hs, hi⟩ | ⟨x, y, l', a, hlt, hle, hg, hs, hi⟩
  · rw [show _ = _ from hs, show _ = _ from hi, Option.bind_some, Option.bind_some]
    dsimp only
    exact out_app e (piece_loop l' T d x (ctx_app h e) hg) (by omega)
  · rw [show _ = _ from hs, show _ = _ from hi, Option.bind_some, Option.bind_some]
    dsimp only
    rw [spec_l3Piece.l0v_eq, if_pos rfl, impl_rexReader_piece.l0v_eq, next_bad, Option.bind_some]
    dsimp only
    rw [if_neg (by decide)]
    exact out_bad ..
  · rw [show _ = _ from hs, show _ = _ from hi, Option.bind_some, Option.bind_some]
    dsimp only
    rw [spec_l3Piece.l0v_eq, if_pos rfl]
    have hlen := ctx_len h
    rw [List.length_cons] at hlen hle
    rcases piece_loop l' l' 0 y (ctx_self l' (by omega)) hg with ⟨z, l2, p2, e2, -, hg2, -, hi2⟩ | ⟨z, z2, l2, a2, -, hi2⟩ | ⟨z, z2, l2, a2, hlt2, _⟩
    · have e3 := congrArg List.length e2
      rw [List.length_append] at e3
      exact .inr (.inr ⟨x, z, l2, _, by omega, by rw [List.length_cons]; omega, hg2, rfl, hi2⟩)
    · exact .inr (.inl ⟨x, z2, l2, _, rfl, hi2⟩)
    · exact absurd hlt2 (Nat.not_lt_zero _)
theorem part_end (xs : List S115) : ∃ x : S115, ((xs.length ≤ 1000 → (∀ y ∈ xs, Good y) → Good x)) ∧ (∀ S a b, spec_l3Part.j1v xs S a b = some (x.f0, x.f1, x.f2, x.f3, x.f4, S, a, b)) ∧ (∀ S b, impl_rexReader_part.j1v xs S b = some (x.f0, x.f1, x.f2, x.f3, x.f4, S, b)) := by
  by_cases h0 : (xs.length : Int) = 0
  · refine ⟨⟨11, 0, (⟨#[]⟩ : ByteArray), false, []⟩, fun _ _ => good_leaf _ _ _ _, fun S a b => ?_, fun S b => ?_⟩
    · rw [spec_l3Part.j1v_eq, if_pos h0]
    · rw [impl_rexReader_part.j1v_eq, if_pos h0]
  · by_cases h1 : (xs.length : Int) = 1
    · obtain ⟨y, rfl⟩ : ∃ y, xs = [y] := List.length_eq_one_iff.1 (by omega)
      refine ⟨y, fun _ hg => hg y (by simp), fun S a b => ?_, fun S b => ?_⟩
      · rw [spec_l3Part.j1v_eq, if_neg h0, if_pos h1, if_pos (by omega)]
        rfl
      · rw [impl_rexReader_part.j1v_eq, if_neg h0, if_pos h1, if_pos (by omega)]
        rfl
    · refine ⟨⟨6, 0, (⟨#[]⟩ : ByteArray), false, xs⟩, fun hl hg => good_node _ _ _ _ xs hl hg, fun S a b => ?_, fun S b => ?_⟩
      · rw [spec_l3Part.j1v_eq, if_neg h0, if_neg h1]
      · rw [impl_rexReader_part.j1v_eq, if_neg h0, if_neg h1]
theorem mem_more {xs : List S115} {x : S115} (h : ∀ y ∈ xs, Good y) (hx : Good x) : ∀ y ∈ xs ++ [x], Good y := by
  intro y hy
  rcases List.mem_append.1 hy with h1 | h1
  · exact h y h1
  · rw [List.mem_singleton] at h1
    rw [h1]
    exact hx
theorem part_loop (n : Nat) (HP : ∀ (T : List UInt8) (c : UInt8) (l : List UInt8) (d : Nat), l.length < n → Ctx T (c :: l) d → PieceS T (c :: l) d) (m : Nat) : ∀ (l T : List UInt8) (d : Nat) (xs : List S115), l.length ≤ m → l.length ≤ n → Ctx T l d → xs.length + l.length ≤ 500 → (∀ y ∈ xs, Good y) →
    Out T l d 0 (spec_l3Part.l0v (d : Int) xs (B T) (pl T l) false) (impl_rexReader_part.l0v xs (B l) false) := by
  induction m with
  | zero =>
    intro l T d xs hm hn h hx hg
    obtain rfl : l = [] := List.length_eq_zero_iff.1 (by omega)
    obtain ⟨x, hgx, h1, h2⟩ := part_end xs
    rw [spec_l3Part.l0v_eq, if_neg (by decide), if_neg (by rw [pl_nil, B_size]; omega), h1, impl_rexReader_part.l0v_eq, next_nil, Option.bind_some]
    dsimp only
    rw [if_neg (by decide), h2]
    exact .inl ⟨x, [], [], rfl, Nat.le_refl _, hgx (by omega) hg, rfl, rfl⟩
  | succ m ih =>
    intro l T d xs hm hn h hx hg
    obtain ⟨x, hgx, h1, h2⟩ := part_end xs
    cases l with
    | nil =>
      rw [spec_l3Part.l0v_eq, if_neg (by decide), if_neg (by rw [pl_nil, B_size]; omega), h1, impl_rexReader_part.l0v_eq, next_nil, Option.bind_some]
      dsimp only
      rw [if_neg (by decide), h2]
      exact .inl ⟨x, [], [], rfl, Nat.le_refl _, hgx (by omega) hg, rfl, rfl⟩
    | cons c l =>
      rw [List.length_cons] at hm hn hx
      rw [spec_l3Part.l0v_eq, if_neg (by decide), if_pos (ctx_lt h), if_pos (pl_ge _ _), ctx_bt h, impl_rexReader_part.l0v_eq, next_cons, Option.bind_some]
      dsimp only
      rw [if_pos rfl]
      by_cases h124 : (c.toNat : Int) = 124
      · rw [if_pos h124, if_pos h124, h1, h2]
        exact .inl ⟨x, c :: l, [], rfl, Nat.le_refl _, hgx (by omega) hg, rfl, rfl⟩
      rw [if_neg h124, if_neg h124]
      by_cases h41 : (c.toNat : Int) = 41
      · rw [if_pos h41, if_pos h41, h1, h2]
        exact .inl ⟨x, c :: l, [], rfl, Nat.le_refl _, hgx (by omega) hg, rfl, rfl⟩
      rw [if_neg h41, if_neg h41]
      rcases HP T c l d (by omega) h with ⟨z, l', p, e, hk, hgz, hs, hi⟩ | ⟨z, y, l', a, hs, hi⟩ | ⟨z, y, l', a, hlt, hle, hgy, hs, hi⟩
      · have e3 := congrArg List.length e
        rw [List.length_append, List.length_cons] at e3
        rw [show _ = _ from hs, show _ = _ from hi, Option.bind_some, Option.bind_some]
        dsimp only
        rw [if_pos (by omega), if_pos (by omega), eta_]
        exact out_app e (ih l' T d (xs ++ [z]) (by omega) (by omega) (ctx_app h e) (by rw [List.length_append, List.length_singleton]; omega) (mem_more hg hgz)) (by omega)
      · rw [show _ = _ from hs, show _ = _ from hi, Option.bind_some, Option.bind_some]
        dsimp only
        rw [if_pos (by omega), if_pos (by omega), eta_, eta_]
        obtain ⟨u, -, u1, -⟩ := part_end (xs ++ [z])
        obtain ⟨v, -, -, v1⟩ := part_end (xs ++ [y])
        rw [spec_l3Part.l0v_eq, if_pos rfl, impl_rexReader_part.l0v_eq, next_bad, Option.bind_some]
        dsimp only
        rw [if_neg (by decide)]
        exact .inr (.inl ⟨u, v, l', a, u1 .., v1 ..⟩)
      · rw [show _ = _ from hs, show _ = _ from hi, Option.bind_some, Option.bind_some]
        dsimp only
        rw [if_pos (by omega), if_pos (by omega), eta_, eta_]
        obtain ⟨u, -, u1, -⟩ := part_end (xs ++ [z])
        rw [spec_l3Part.l0v_eq, if_pos rfl]
        have hlen := ctx_len h
        rw [List.length_cons] at hlen hle
        rcases ih l' l' 0 (xs ++ [y]) (by omega) (by omega) (ctx_self l' (by omega)) (by rw [List.length_append, List.length_singleton]; omega) (mem_more hg hgy) with ⟨z2, l2, p2, e2, -, hg2, -, hi2⟩ | ⟨z1, z2, l2, a2, -, hi2⟩ | ⟨z1, z2, l2, a2, hlt2, _⟩
        · have e3 := congrArg List.length e2
          rw [List.length_append] at e3
          exact .inr (.inr ⟨u, z2, l2, a, by omega, by rw [List.length_cons]; omega, hg2, u1 .., hi2⟩)
        · exact .inr (.inl ⟨u, z2, l2, a, u1 .., hi2⟩)
        · exact absurd hlt2 (Nat.not_lt_zero _)
theorem part_sim (n : Nat) (HP : ∀ (T : List UInt8) (c : UInt8) (l : List UInt8) (d : Nat), l.length < n → Ctx T (c :: l) d → PieceS T (c :: l) d) (l T : List UInt8) (d : Nat) (hn : l.length ≤ n) (h : Ctx T l d) : PartS T l d := by
  unfold PartS
  rw [spec_l3Part.fv_eq, impl_rexReader_part.fv_eq]
  have hlen := ctx_len h
  exact part_loop n HP _ l T d [] (Nat.le_refl _) hn h (by rw [List.length_nil]; omega) (by simp)
/-- what a pattern of these parts is -/
theorem pat_end (xs : List S115) : ∃ x : S115, ((xs.length ≤ 1000 → (∀ y ∈ xs, Good y) → Good x)) ∧
    (∀ (S : ByteArray) (a : Int) (b : Bool), (if (xs.length : Int) = 1 then (if 0 < (xs.length : Int) then (some ((rd_T115 xs 0).f0, (rd_T115 xs 0).f1, (rd_T115 xs 0).f2, (rd_T115 xs 0).f3, (rd_T115 xs 0).f4, S, a, b)) else (none)) else (some (7, 0, (⟨#[]⟩ : ByteArray), false, xs, S, a, b))) = some (x.f0, x.f1, x.f2, x.f3, x.f4, S, a, b)) ∧
    (∀ (S : ByteArray) (b : Bool), (if (xs.length : Int) = 1 then (if 0 < (xs.length : Int) then (some ((rd_T115 xs 0).f0, (rd_T115 xs 0).f1, (rd_T115 xs 0).f2, (rd_T115 xs 0).f3, (rd_T115 xs 0).f4, S, b)) else (none)) else (some (7, 0, (⟨#[]⟩ : ByteArray), false, xs, S, b))) = some (x.f0, x.f1, x.f2, x.f3, x.f4, S, b)) := by
  by_cases h1 : (xs.length : Int) = 1
  · obtain ⟨y, rfl⟩ : ∃ y, xs = [y] := List.length_eq_one_iff.1 (by omega)
    refine ⟨y, fun _ hg => hg y (by simp), fun S a b => ?_, fun S b => ?_⟩
    · rw [if_pos h1, if_pos (by omega)]
      rfl
    · rw [if_pos h1, if_pos (by omega)]
      rfl
  · refine ⟨⟨7, 0, (⟨#[]⟩ : ByteArray), false, xs⟩, fun hl hg => good_node _ _ _ _ xs hl hg, fun S a b => ?_, fun S b => ?_⟩
    · rw [if_neg h1]
    · rw [if_neg h1]
theorem pat_loop (n : Nat) (HP : ∀ (l T : List UInt8) (d : Nat), l.length ≤ n → Ctx T l d → PartS T l d) (m : Nat) : ∀ (l T : List UInt8) (d : Nat) (xs : List S115), l.length ≤ m → l.length ≤ n → Ctx T l d → xs.length + l.length ≤ 500 → (∀ y ∈ xs, Good y) →
    Out T l d 0 (spec_l3Pattern.l0v (d : Int) xs (B T) (pl T l) false) (impl_rexReader_pattern.l0v xs (B l) false) := by
  induction m with
  | zero =>
    intro l T d xs hm hn h hx hg
    obtain rfl : l = [] := List.length_eq_zero_iff.1 (by omega)
    obtain ⟨x, hgx, h1, h2⟩ := pat_end xs
    rw [spec_l3Pattern.l0v_eq, now_end, Option.bind_some, impl_rexReader_pattern.l0v_eq, take_nil, Option.bind_some]
    dsimp only
    rw [if_neg (by decide), h1, if_neg (by decide), h2]
    exact .inl ⟨x, [], [], rfl, Nat.le_refl _, hgx (by omega) hg, rfl, rfl⟩
  | succ m ih =>
    intro l T d xs hm hn h hx hg
    obtain ⟨x, hgx, h1, h2⟩ := pat_end xs
    cases l with
    | nil =>
      rw [spec_l3Pattern.l0v_eq, now_end, Option.bind_some, impl_rexReader_pattern.l0v_eq, take_nil, Option.bind_some]
      dsimp only
      rw [if_neg (by decide), h1, if_neg (by decide), h2]
      exact .inl ⟨x, [], [], rfl, Nat.le_refl _, hgx (by omega) hg, rfl, rfl⟩
    | cons c l =>
      rw [List.length_cons] at hm hn hx
      rw [spec_l3Pattern.l0v_eq, now_cons h, Option.bind_some, impl_rexReader_pattern.l0v_eq]
      dsimp only
      by_cases h124 : (c.toNat : Int) = 124
      · have h3 := ctx_tail h
        rw [take_hit c l 124 h124, Option.bind_some]
        dsimp only
        rw [if_pos (by rw [h124]; rfl), if_pos rfl, ctx_next h]
        rcases HP l T d (by omega) h3 with ⟨z, l', p, e, hk, hgz, hs, hi⟩ | ⟨z, y, l', a, hs, hi⟩ | ⟨z, y, l', a, hlt, hle, hgy, hs, hi⟩
        · have e3 := congrArg List.length e
          rw [List.length_append] at e3
          rw [show _ = _ from hs, show _ = _ from hi, Option.bind_some, Option.bind_some]
          dsimp only
          rw [if_pos (by omega), if_pos (by omega), eta_]
          exact out_cons (out_app e (ih l' T d (xs ++ [z]) (by omega) (by omega) (ctx_app h3 e) (by rw [List.length_append, List.length_singleton]; omega) (mem_more hg hgz)) (Nat.zero_le _)) (Nat.zero_le _)
        · rw [show _ = _ from hs, show _ = _ from hi, Option.bind_some, Option.bind_some]
          dsimp only
          rw [if_pos (by omega), if_pos (by omega), eta_, eta_]
          obtain ⟨u, -, u1, -⟩ := pat_end (xs ++ [z])
          obtain ⟨v, -, -, v1⟩ := pat_end (xs ++ [y])
          rw [spec_l3Pattern.l0v_eq, now_bad, Option.bind_some, impl_rexReader_pattern.l0v_eq, take_bad, Option.bind_some]
          dsimp only
          rw [if_neg (by decide), u1, if_neg (by decide), v1]
          exact .inr (.inl ⟨u, v, l', a, rfl, rfl⟩)
        · rw [show _ = _ from hs, show _ = _ from hi, Option.bind_some, Option.bind_some]
          dsimp only
          rw [if_pos (by omega), if_pos (by omega), eta_, eta_]
          obtain ⟨u, -, u1, -⟩ := pat_end (xs ++ [z])
          rw [spec_l3Pattern.l0v_eq, now_bad, Option.bind_some]
          dsimp only
          rw [if_neg (by decide)]
          have hlen := ctx_len h
          rw [List.length_cons] at hlen
          rcases ih l' l' 0 (xs ++ [y]) (by omega) (by omega) (ctx_self l' (by omega)) (by rw [List.length_append, List.length_singleton]; omega) (mem_more hg hgy) with ⟨z2, l2, p2, e2, -, hg2, -, hi2⟩ | ⟨z1, z2, l2, a2, -, hi2⟩ | ⟨z1, z2, l2, a2, hlt2, _⟩
          · have e3 := congrArg List.length e2
            rw [List.length_append] at e3
            exact .inr (.inr ⟨u, z2, l2, a, by omega, by rw [List.length_cons]; omega, hg2, u1 .., hi2⟩)
          · exact .inr (.inl ⟨u, z2, l2, a, u1 .., hi2⟩)
          · exact absurd hlt2 (Nat.not_lt_zero _)
      · rw [take_miss c l 124 h124, Option.bind_some]
        dsimp only
        rw [if_neg (by rw [beq_iff_eq]; exact h124), h1, if_neg (by decide), h2]
        exact .inl ⟨x, c :: l, [], rfl, Nat.le_refl _, hgx (by omega) hg, rfl, rfl⟩
theorem pat_sim (n : Nat) (HP : ∀ (l T : List UInt8) (d : Nat), l.length ≤ n → Ctx T l d → PartS T l d) (l T : List UInt8) (d : Nat) (hn : l.length ≤ n) (h : Ctx T l d) : PatS T l d := by
  unfold PatS
  rw [spec_l3Pattern.fv_eq, impl_rexReader_pattern.fv_eq]
  have hlen := ctx_len h
  rcases HP l T d hn h with ⟨z, l', p, e, hk, hgz, hs, hi⟩ | ⟨z, y, l', a, hs, hi⟩ | ⟨z, y, l', a, hlt, hle, hgy, hs, hi⟩
  · have e3 := congrArg List.length e
    rw [List.length_append] at e3
    rw [show _ = _ from hs, show _ = _ from hi, Option.bind_some, Option.bind_some]
    dsimp only
    rw [eta_]
    exact out_app e (pat_loop n HP _ l' T d [z] (Nat.le_refl _) (by omega) (ctx_app h e) (by rw [List.length_singleton]; omega) (mem_more (xs := []) (by simp) hgz)) (Nat.zero_le _)
  · rw [show _ = _ from hs, show _ = _ from hi, Option.bind_some, Option.bind_some]
    dsimp only
    rw [eta_, eta_]
    obtain ⟨u, -, u1, -⟩ := pat_end [z]
    obtain ⟨v, -, -, v1⟩ := pat_end [y]
    rw [spec_l3Pattern.l0v_eq, now_bad, Option.bind_some, impl_rexReader_pattern.l0v_eq, take_bad, Option.bind_some]
    dsimp only
    rw [if_neg (by decide), u1, if_neg (by decide), v1]
    exact .inr (.inl ⟨u, v, l', a, rfl, rfl⟩)
  · rw [show _ = _ from hs, show _ = _ from hi, Option.bind_some, Option.bind_some]
    dsimp only
    rw [eta_, eta_]
    obtain ⟨u, -, u1, -⟩ := pat_end [z]
    rw [spec_l3Pattern.l0v_eq, now_bad, Option.bind_some]
    dsimp only
    rw [if_neg (by decide)]
    rcases pat_loop n HP _ l' l' 0 [y] (Nat.le_refl _) (by omega) (ctx_self l' (by omega)) (by rw [List.length_singleton]; omega) (mem_more (xs := []) (by simp) hgy) with ⟨z2, l2, p2, e2, -, hg2, -, hi2⟩ | ⟨z1, z2, l2, a2, -, hi2⟩ | ⟨z1, z2, l2, a2, hlt2, _⟩
    · have e3 := congrArg List.length e2
      rw [List.length_append] at e3
      exact .inr (.inr ⟨u, z2, l2, a, by omega, by omega, hg2, u1 .., hi2⟩)
    · exact .inr (.inl ⟨u, z2, l2, a, u1 .., hi2⟩)
    · exact absurd hlt2 (Nat.not_lt_zero _)
theorem all_sim (n : Nat) : ∀ (l T : List UInt8) (d : Nat), l.length < n → Ctx T l d → PatS T l d := by
  induction n with
  | zero => intro l T d h; exact absurd h (Nat.not_lt_zero _)
  | succ n ih =>
    have HA : ∀ (T : List UInt8) (c : UInt8) (l : List UInt8) (d : Nat), l.length < n → Ctx T (c :: l) d → PieceS T (c :: l) d := by
      intro T c l d hl h
      have hlen := ctx_len h
      rw [List.length_cons] at hlen
      exact piece_sim T c l d h (atom_sim T c l d h (ih l T (d + 1) hl (ctx_in h)) (ih l (c :: l) 1 hl (ctx_in (ctx_self (c :: l) (by rw [List.length_cons]; omega)))))
    intro l T d hl h
    exact pat_sim n (fun l T d hl h => part_sim n HA l T d hl h) l T d (by omega) h
/-- both read a text alike -/
theorem parse_both (s : ByteArray) : ∃ (x : S115) (ok : Bool), spec_RexParse.fv s = some (x.f0, x.f1, x.f2, x.f3, x.f4, ok) ∧ impl_RexParse.fv s = some (x.f0, x.f1, x.f2, x.f3, x.f4, ok) := by
  rw [spec_RexParse.fv_eq, impl_RexParse.fv_eq]
  by_cases h60 : (s.size : Int) > 60
  · rw [if_pos h60, if_pos h60]
    exact ⟨⟨0, 0, (⟨#[]⟩ : ByteArray), false, []⟩, false, rfl, rfl⟩
  rw [if_neg h60, if_neg h60]
  have hs : B s.data.toList = s := B_self s
  generalize s.data.toList = l at hs
  subst hs
  rw [B_size] at h60
  have hp0 : (0 : Int) = pl l l := by unfold pl; omega
  have hz : spec_l3Pattern.fv (B l) 0 false 0 = spec_l3Pattern.fv (B l) (pl l l) false ((0 : Nat) : Int) := by rw [← hp0]; rfl
  rw [hz]
  rcases all_sim (l.length + 1) l l 0 (by omega) (ctx_self l (by omega)) with ⟨z, l', p, e, hk, ⟨v, g1, g2⟩, hs, hi⟩ | ⟨z, y, l', a, hs, hi⟩ | ⟨z, y, l', a, hlt, _⟩
  · rw [show _ = _ from hs, show _ = _ from hi, Option.bind_some, Option.bind_some]
    dsimp only
    cases l' with
    | nil =>
      have y1 : pl l [] = ((B l).size : Int) := by rw [pl_nil, B_size]
      simp only [Bool.false_eq_true, if_false, if_pos y1, B_toList, if_true, g1, g2, Option.bind_some]
      by_cases h12 : v > 12
      · rw [if_pos h12]
        exact ⟨⟨0, 0, (⟨#[]⟩ : ByteArray), false, []⟩, false, rfl, rfl⟩
      · rw [if_neg h12]
        exact ⟨z, true, rfl, rfl⟩
    | cons c l' =>
      have e3 := congrArg List.length e
      rw [List.length_append, List.length_cons] at e3
      have y1 : ¬ pl l (c :: l') = ((B l).size : Int) := by unfold pl; rw [List.length_cons, B_size]; omega
      have y2 : ¬ (c :: l') = ([] : List UInt8) := by simp
      simp only [Bool.false_eq_true, if_false, if_neg y1, B_toList, if_neg y2]
      exact ⟨⟨0, 0, (⟨#[]⟩ : ByteArray), false, []⟩, false, rfl, rfl⟩
  · rw [show _ = _ from hs, show _ = _ from hi, Option.bind_some, Option.bind_some]
    dsimp only
    rw [if_pos rfl, if_pos rfl]
    exact ⟨⟨0, 0, (⟨#[]⟩ : ByteArray), false, []⟩, false, rfl, rfl⟩
  · exact absurd hlt (Nat.not_lt_zero _)

/-! ### one place of a machine -/
theorem in_eq (a lo hi : Int) : spec_l1In.f a lo hi = some (decide (lo ≤ a ∧ a ≤ hi)) := by
  unfold spec_l1In.f
  by_cases h : lo ≤ a
  · rw [if_pos h]; simp [h]
  · rw [if_neg h]; simp [h]
theorem in_eq' (a lo hi : Int) : impl_in.f a lo hi = some (decide (lo ≤ a ∧ a ≤ hi)) := by
  unfold impl_in.f
  by_cases h : lo ≤ a
  · rw [if_pos h]; simp [h]
  · rw [if_neg h]; simp [h]
theorem calls_s (c : ByteArray) : ((spec_l7Calls.f).bind fun t => ((spec_l7Within.fv t c).bind fun u => (some u))) = some (decide (c.toList ∈ callws)) := by
  simp only [spec_l7Calls.f, Option.bind_some]
  rw [within _ _ (by simp)]
  simp only [List.map_cons, List.map_nil, Go.ByteArray.toList_mk, Option.bind_some]
  rfl
theorem calls_i (c : ByteArray) : ((impl_calls.f).bind fun t => ((slices_Contains_string_string.fv t c).bind fun u => (some u))) = some (decide (c.toList ∈ callws)) := by
  simp only [impl_calls.f, Option.bind_some]
  rw [contains _ _ (by simp)]
  simp only [List.map_cons, List.map_nil, Go.ByteArray.toList_mk, Option.bind_some]
  rfl
theorem calls_s2 (c : ByteArray) : ((spec_l7Calls.f).bind fun t => spec_l7Within.fv t c) = some (decide (c.toList ∈ callws)) := by
  rw [← calls_s]
  simp
theorem calls_i2 (c : ByteArray) : ((impl_calls.f).bind fun t => slices_Contains_string_string.fv t c) = some (decide (c.toList ∈ callws)) := by
  rw [← calls_i]
  simp
theorem isrex (s : ByteArray) : ∃ (ok : Bool) (x : S115), impl_isRex.fv s = some ok ∧ spec_RexParse.fv s = some (x.f0, x.f1, x.f2, x.f3, x.f4, ok) := by
  obtain ⟨x, ok, h1, h2⟩ := parse_both s
  exact ⟨ok, x, by rw [impl_isRex.fv_eq, h2, Option.bind_some], h1⟩
def opForm (a : Int) : List UInt8 :=
  if a = 1 then [100] else if a = 2 ∨ a = 24 ∨ a = 25 then [115] else if a = 29 then [110, 115] else if a = 3 ∨ a = 4 ∨ a = 5 ∨ a = 6 ∨ a = 7 ∨ a = 8 ∨ a = 35 ∨ a = 30 ∨ a = 31 ∨ a = 33 then [110] else []
/-- the places' names -/
def opNames : List ByteArray := [(⟨#[]⟩ : ByteArray), (⟨#[110, 117, 109]⟩ : ByteArray), (⟨#[116, 101, 120, 116]⟩ : ByteArray), (⟨#[118, 97, 114]⟩ : ByteArray), (⟨#[115, 101, 116, 118, 97, 114]⟩ : ByteArray), (⟨#[112, 108, 117, 115, 118, 97, 114]⟩ : ByteArray), (⟨#[99, 101, 108, 108]⟩ : ByteArray), (⟨#[115, 101, 116, 99, 101, 108, 108]⟩ : ByteArray), (⟨#[112, 108, 117, 115, 99, 101, 108, 108]⟩ : ByteArray), (⟨#[102, 105, 101, 108, 100]⟩ : ByteArray), (⟨#[110, 114]⟩ : ByteArray), (⟨#[110, 102]⟩ : ByteArray), (⟨#[97, 100, 100]⟩ : ByteArray), (⟨#[115, 117, 98]⟩ : ByteArray), (⟨#[109, 117, 108]⟩ : ByteArray), (⟨#[100, 105, 118]⟩ : ByteArray), (⟨#[109, 111, 100]⟩ : ByteArray), (⟨#[99, 97, 116]⟩ : ByteArray), (⟨#[108, 101, 115, 115]⟩ : ByteArray), (⟨#[109, 111, 115, 116]⟩ : ByteArray), (⟨#[109, 111, 114, 101]⟩ : ByteArray), (⟨#[108, 101, 97, 115, 116]⟩ : ByteArray), (⟨#[115, 97, 109, 101]⟩ : ByteArray), (⟨#[111, 116, 104, 101, 114]⟩ : ByteArray), (⟨#[102, 105, 116, 115]⟩ : ByteArray), (⟨#[108, 105, 110, 101]⟩ : ByteArray), (⟨#[110, 111, 116]⟩ : ByteArray), (⟨#[109, 105, 110, 117, 115]⟩ : ByteArray), (⟨#[98, 111, 111, 108]⟩ : ByteArray), (⟨#[99, 97, 108, 108]⟩ : ByteArray), (⟨#[106, 117, 109, 112]⟩ : ByteArray), (⟨#[122, 101, 114, 111]⟩ : ByteArray), (⟨#[112, 111, 112]⟩ : ByteArray), (⟨#[115, 104, 111, 119]⟩ : ByteArray), (⟨#[101, 110, 100, 108]⟩ : ByteArray), (⟨#[100, 114, 111, 112]⟩ : ByteArray), (⟨#[110, 101, 120, 116]⟩ : ByteArray)]
theorem name_in (a : Int) (L : List ByteArray) (hL : (L.length : Int) = 37) (h1 : 1 ≤ a) (h2 : a ≤ 36) :
    impl_opName.j0v a L (⟨#[]⟩ : ByteArray) a (a == 25) = some (rdOf ByteArray.empty L a, ⟨(if a = 25 then [115] else if a = 29 then [110, 115] else if a = 3 ∨ a = 4 ∨ a = 5 ∨ a = 6 ∨ a = 7 ∨ a = 8 ∨ a = 35 ∨ a = 30 ∨ a = 31 ∨ a = 33 then [110] else [] : List UInt8).toArray⟩) := by
  have c0 : 0 ≤ a := by omega
  have c1 : a < (L.length : Int) := by omega
  rw [impl_opName.j0v_eq]
  simp only [c0, c1, if_true, beq_iff_eq]
  by_cases k1 : a = 25
  · simp [k1]
  by_cases k2 : a = 29
  · simp [k2]
  by_cases k3 : a = 3
  · simp [k3]
  by_cases k4 : a = 4
  · simp [k4]
  by_cases k5 : a = 5
  · simp [k5]
  by_cases k6 : a = 6
  · simp [k6]
  by_cases k7 : a = 7
  · simp [k7]
  by_cases k8 : a = 8
  · simp [k8]
  by_cases k9 : a = 35
  · simp [k9]
  by_cases k10 : a = 30
  · simp [k10]
  by_cases k11 : a = 31
  · simp [k11]
  by_cases k12 : a = 33
  · simp [k12]
  simp [k1, k2, k3, k4, k5, k6, k7, k8, k9, k10, k11, k12]
theorem name_some (a : Int) (h1 : 1 ≤ a) (h2 : a ≤ 36) : (rdOf ByteArray.empty opNames a).toList ≠ [] := by
  have h : ∀ n, n < 37 → 1 ≤ n → (opNames.getD n ByteArray.empty).data.toList ≠ [] := by decide
  rw [Lib.toList_data]
  exact h a.toNat (by omega) (by omega)
theorem name_eq (a : Int) : impl_opName.fv a = (if decide (1 ≤ a ∧ a ≤ 36) = true then (if a = 1 then (if 0 ≤ a then (if a < (opNames.length : Int) then (some (rdOf ByteArray.empty opNames a, (⟨#[100]⟩ : ByteArray))) else (none)) else (none)) else (if a = 2 then (impl_opName.j0v a opNames (⟨#[]⟩ : ByteArray) a (a == 2)) else (if a = 24 then (impl_opName.j0v a opNames (⟨#[]⟩ : ByteArray) a (a == 24)) else (impl_opName.j0v a opNames (⟨#[]⟩ : ByteArray) a (a == 25))))) else (some ((⟨#[]⟩ : ByteArray), (⟨#[]⟩ : ByteArray)))) := by
  rw [impl_opName.fv_eq]
  show ((some opNames).bind _) = _
  rw [Option.bind_some]
  have hw : wrap64 ((opNames.length : Int) - 1) = 36 := wrap_in (n := 36) (by omega) (by omega)
  rw [hw, in_eq', Option.bind_some]
theorem op_name (a : Int) (h1 : 1 ≤ a) (h2 : a ≤ 36) : ∃ nm : ByteArray, nm.toList ≠ [] ∧ impl_opName.fv a = some (nm, B (opForm a)) := by
  have hl : (opNames.length : Int) = 37 := by decide
  have c0 : 0 ≤ a := by omega
  have c1 : a < (opNames.length : Int) := by omega
  refine ⟨_, name_some a h1 h2, ?_⟩
  rw [name_eq, if_pos (decide_eq_true ⟨h1, h2⟩)]
  by_cases k1 : a = 1
  · rw [if_pos k1, if_pos c0, if_pos c1]
    unfold opForm
    rw [if_pos k1]
    rfl
  rw [if_neg k1]
  by_cases k2 : a = 2
  · rw [if_pos k2, impl_opName.j0v_eq, if_pos (by rw [k2]; rfl), if_pos c0, if_pos c1]
    unfold opForm
    rw [if_neg k1, if_pos (.inl k2)]
    rfl
  rw [if_neg k2]
  by_cases k3 : a = 24
  · rw [if_pos k3, impl_opName.j0v_eq, if_pos (by rw [k3]; rfl), if_pos c0, if_pos c1]
    unfold opForm
    rw [if_neg k1, if_pos (.inr (.inl k3))]
    rfl
  rw [if_neg k3, name_in a _ hl h1 h2]
  have : opForm a = (if a = 25 then [115] else if a = 29 then [110, 115] else if a = 3 ∨ a = 4 ∨ a = 5 ∨ a = 6 ∨ a = 7 ∨ a = 8 ∨ a = 35 ∨ a = 30 ∨ a = 31 ∨ a = 33 then [110] else [] : List UInt8) := by
    unfold opForm
    rw [if_neg k1]
    by_cases k4 : a = 25
    · simp [k4]
    · simp [k2, k3, k4]
  rw [this]
  rfl
theorem op_out (a : Int) (h : ¬ (1 ≤ a ∧ a ≤ 36)) : impl_opName.fv a = some (B [], B []) := by
  rw [name_eq, if_neg (by rw [decide_eq_true_eq]; exact h)]
  rfl
theorem op_both (a b : Int) (c : ByteArray) (n v k : Int) : ∃ r, spec_l13Op.fv a b c n v k = some r ∧ impl_opRight.fv a b c n v k = some r := by
  obtain ⟨e, he1, he2, he3⟩ : ∃ e : Bool, (c.toList == ([] : List UInt8)) = e ∧ (c.toList != ([] : List UInt8)) = !e ∧ ((c.toList = ([] : List UInt8)) = (e = true)) := by
    refine ⟨c.toList == ([] : List UInt8), rfl, rfl, ?_⟩
    rw [beq_iff_eq]
  obtain ⟨ok, rx, hr1, hr2⟩ := isrex c
  by_cases k1 : a = 1
  · subst k1
    obtain ⟨nm, hn, hf⟩ := op_name 1 (by decide) (by decide)
    rw [impl_opRight.fv_eq, hf, Option.bind_some, if_neg hn]
    cases e <;> by_cases hb : -9000000000000 ≤ b ∧ b ≤ 9000000000000 <;> simp [hb, he1, he2, he3, hr1, hr2, B_toList, opForm, in_eq, in_eq', spec_DecOk.f, impl_DecOk.f, spec_l13Op.fv_eq, spec_l13Op.j0v_eq, spec_l13Op.j1v_eq, spec_l13Op.j2v_eq, spec_l13Op.j3v_eq, impl_opRight.j0v_eq, impl_opRight.j1v_eq, impl_opRight.j2v_eq, impl_opRight.j3v_eq, impl_opRight.j4v_eq]
  by_cases k2 : a = 2
  · subst k2
    obtain ⟨nm, hn, hf⟩ := op_name 2 (by decide) (by decide)
    rw [impl_opRight.fv_eq, hf, Option.bind_some, if_neg hn]
    cases e <;> by_cases hb : b = 0 <;> simp [hb, he1, he2, he3, hr1, hr2, B_toList, opForm, in_eq, in_eq', spec_DecOk.f, impl_DecOk.f, spec_l13Op.fv_eq, spec_l13Op.j0v_eq, spec_l13Op.j1v_eq, spec_l13Op.j2v_eq, spec_l13Op.j3v_eq, impl_opRight.j0v_eq, impl_opRight.j1v_eq, impl_opRight.j2v_eq, impl_opRight.j3v_eq, impl_opRight.j4v_eq]
  by_cases k24 : a = 24
  · subst k24
    obtain ⟨nm, hn, hf⟩ := op_name 24 (by decide) (by decide)
    rw [impl_opRight.fv_eq, hf, Option.bind_some, if_neg hn]
    cases e <;> by_cases hb : b = 0 <;> cases ok <;> simp [hb, he1, he2, he3, hr1, hr2, B_toList, opForm, in_eq, in_eq', spec_DecOk.f, impl_DecOk.f, spec_l13Op.fv_eq, spec_l13Op.j0v_eq, spec_l13Op.j1v_eq, spec_l13Op.j2v_eq, spec_l13Op.j3v_eq, impl_opRight.j0v_eq, impl_opRight.j1v_eq, impl_opRight.j2v_eq, impl_opRight.j3v_eq, impl_opRight.j4v_eq]
  by_cases k25 : a = 25
  · subst k25
    obtain ⟨nm, hn, hf⟩ := op_name 25 (by decide) (by decide)
    rw [impl_opRight.fv_eq, hf, Option.bind_some, if_neg hn]
    cases e <;> by_cases hb : b = 0 <;> cases ok <;> simp [hb, he1, he2, he3, hr1, hr2, B_toList, opForm, in_eq, in_eq', spec_DecOk.f, impl_DecOk.f, spec_l13Op.fv_eq, spec_l13Op.j0v_eq, spec_l13Op.j1v_eq, spec_l13Op.j2v_eq, spec_l13Op.j3v_eq, impl_opRight.j0v_eq, impl_opRight.j1v_eq, impl_opRight.j2v_eq, impl_opRight.j3v_eq, impl_opRight.j4v_eq]
  by_cases k29 : a = 29
  · subst k29
    obtain ⟨nm, hn, hf⟩ := op_name 29 (by decide) (by decide)
    rw [impl_opRight.fv_eq, hf, Option.bind_some, if_neg hn]
    cases e <;> by_cases hb : 1 ≤ b ∧ b ≤ 3 <;> by_cases hm : c.toList ∈ callws <;> simp [hb, hm, calls_s2, calls_i2, he1, he2, he3, hr1, hr2, B_toList, opForm, in_eq, in_eq', spec_DecOk.f, impl_DecOk.f, spec_l13Op.fv_eq, spec_l13Op.j0v_eq, spec_l13Op.j1v_eq, spec_l13Op.j2v_eq, spec_l13Op.j3v_eq, impl_opRight.j0v_eq, impl_opRight.j1v_eq, impl_opRight.j2v_eq, impl_opRight.j3v_eq, impl_opRight.j4v_eq]
  by_cases k3 : a = 3
  · subst k3
    obtain ⟨nm, hn, hf⟩ := op_name 3 (by decide) (by decide)
    rw [impl_opRight.fv_eq, hf, Option.bind_some, if_neg hn]
    cases e <;> by_cases hb : 0 ≤ b <;> by_cases hb2 : b < v <;> simp [hb, hb2, he1, he2, he3, hr1, hr2, B_toList, opForm, in_eq, in_eq', spec_DecOk.f, impl_DecOk.f, spec_l13Op.fv_eq, spec_l13Op.j0v_eq, spec_l13Op.j1v_eq, spec_l13Op.j2v_eq, spec_l13Op.j3v_eq, impl_opRight.j0v_eq, impl_opRight.j1v_eq, impl_opRight.j2v_eq, impl_opRight.j3v_eq, impl_opRight.j4v_eq]
  by_cases k4 : a = 4
  · subst k4
    obtain ⟨nm, hn, hf⟩ := op_name 4 (by decide) (by decide)
    rw [impl_opRight.fv_eq, hf, Option.bind_some, if_neg hn]
    cases e <;> by_cases hb : 0 ≤ b <;> by_cases hb2 : b < v <;> simp [hb, hb2, he1, he2, he3, hr1, hr2, B_toList, opForm, in_eq, in_eq', spec_DecOk.f, impl_DecOk.f, spec_l13Op.fv_eq, spec_l13Op.j0v_eq, spec_l13Op.j1v_eq, spec_l13Op.j2v_eq, spec_l13Op.j3v_eq, impl_opRight.j0v_eq, impl_opRight.j1v_eq, impl_opRight.j2v_eq, impl_opRight.j3v_eq, impl_opRight.j4v_eq]
  by_cases k5 : a = 5
  · subst k5
    obtain ⟨nm, hn, hf⟩ := op_name 5 (by decide) (by decide)
    rw [impl_opRight.fv_eq, hf, Option.bind_some, if_neg hn]
    cases e <;> by_cases hb : 0 ≤ b <;> by_cases hb2 : b < v <;> simp [hb, hb2, he1, he2, he3, hr1, hr2, B_toList, opForm, in_eq, in_eq', spec_DecOk.f, impl_DecOk.f, spec_l13Op.fv_eq, spec_l13Op.j0v_eq, spec_l13Op.j1v_eq, spec_l13Op.j2v_eq, spec_l13Op.j3v_eq, impl_opRight.j0v_eq, impl_opRight.j1v_eq, impl_opRight.j2v_eq, impl_opRight.j3v_eq, impl_opRight.j4v_eq]
  by_cases k6 : a = 6
  · subst k6
    obtain ⟨nm, hn, hf⟩ := op_name 6 (by decide) (by decide)
    rw [impl_opRight.fv_eq, hf, Option.bind_some, if_neg hn]
    cases e <;> by_cases hb : 0 ≤ b <;> by_cases hb2 : b < k <;> simp [hb, hb2, he1, he2, he3, hr1, hr2, B_toList, opForm, in_eq, in_eq', spec_DecOk.f, impl_DecOk.f, spec_l13Op.fv_eq, spec_l13Op.j0v_eq, spec_l13Op.j1v_eq, spec_l13Op.j2v_eq, spec_l13Op.j3v_eq, impl_opRight.j0v_eq, impl_opRight.j1v_eq, impl_opRight.j2v_eq, impl_opRight.j3v_eq, impl_opRight.j4v_eq]
  by_cases k7 : a = 7
  · subst k7
    obtain ⟨nm, hn, hf⟩ := op_name 7 (by decide) (by decide)
    rw [impl_opRight.fv_eq, hf, Option.bind_some, if_neg hn]
    cases e <;> by_cases hb : 0 ≤ b <;> by_cases hb2 : b < k <;> simp [hb, hb2, he1, he2, he3, hr1, hr2, B_toList, opForm, in_eq, in_eq', spec_DecOk.f, impl_DecOk.f, spec_l13Op.fv_eq, spec_l13Op.j0v_eq, spec_l13Op.j1v_eq, spec_l13Op.j2v_eq, spec_l13Op.j3v_eq, impl_opRight.j0v_eq, impl_opRight.j1v_eq, impl_opRight.j2v_eq, impl_opRight.j3v_eq, impl_opRight.j4v_eq]
  by_cases k8 : a = 8
  · subst k8
    obtain ⟨nm, hn, hf⟩ := op_name 8 (by decide) (by decide)
    rw [impl_opRight.fv_eq, hf, Option.bind_some, if_neg hn]
    cases e <;> by_cases hb : 0 ≤ b <;> by_cases hb2 : b < k <;> simp [hb, hb2, he1, he2, he3, hr1, hr2, B_toList, opForm, in_eq, in_eq', spec_DecOk.f, impl_DecOk.f, spec_l13Op.fv_eq, spec_l13Op.j0v_eq, spec_l13Op.j1v_eq, spec_l13Op.j2v_eq, spec_l13Op.j3v_eq, impl_opRight.j0v_eq, impl_opRight.j1v_eq, impl_opRight.j2v_eq, impl_opRight.j3v_eq, impl_opRight.j4v_eq]
  by_cases k35 : a = 35
  · subst k35
    obtain ⟨nm, hn, hf⟩ := op_name 35 (by decide) (by decide)
    rw [impl_opRight.fv_eq, hf, Option.bind_some, if_neg hn]
    cases e <;> by_cases hb : 0 ≤ b <;> by_cases hb2 : b < k <;> simp [hb, hb2, he1, he2, he3, hr1, hr2, B_toList, opForm, in_eq, in_eq', spec_DecOk.f, impl_DecOk.f, spec_l13Op.fv_eq, spec_l13Op.j0v_eq, spec_l13Op.j1v_eq, spec_l13Op.j2v_eq, spec_l13Op.j3v_eq, impl_opRight.j0v_eq, impl_opRight.j1v_eq, impl_opRight.j2v_eq, impl_opRight.j3v_eq, impl_opRight.j4v_eq]
  by_cases k30 : a = 30
  · subst k30
    obtain ⟨nm, hn, hf⟩ := op_name 30 (by decide) (by decide)
    rw [impl_opRight.fv_eq, hf, Option.bind_some, if_neg hn]
    cases e <;> by_cases hb : 0 ≤ b ∧ b ≤ wrap64 (n - 1) <;> simp [hb, he1, he2, he3, hr1, hr2, B_toList, opForm, in_eq, in_eq', spec_DecOk.f, impl_DecOk.f, spec_l13Op.fv_eq, spec_l13Op.j0v_eq, spec_l13Op.j1v_eq, spec_l13Op.j2v_eq, spec_l13Op.j3v_eq, impl_opRight.j0v_eq, impl_opRight.j1v_eq, impl_opRight.j2v_eq, impl_opRight.j3v_eq, impl_opRight.j4v_eq]
  by_cases k31 : a = 31
  · subst k31
    obtain ⟨nm, hn, hf⟩ := op_name 31 (by decide) (by decide)
    rw [impl_opRight.fv_eq, hf, Option.bind_some, if_neg hn]
    cases e <;> by_cases hb : 0 ≤ b ∧ b ≤ wrap64 (n - 1) <;> simp [hb, he1, he2, he3, hr1, hr2, B_toList, opForm, in_eq, in_eq', spec_DecOk.f, impl_DecOk.f, spec_l13Op.fv_eq, spec_l13Op.j0v_eq, spec_l13Op.j1v_eq, spec_l13Op.j2v_eq, spec_l13Op.j3v_eq, impl_opRight.j0v_eq, impl_opRight.j1v_eq, impl_opRight.j2v_eq, impl_opRight.j3v_eq, impl_opRight.j4v_eq]
  by_cases k33 : a = 33
  · subst k33
    obtain ⟨nm, hn, hf⟩ := op_name 33 (by decide) (by decide)
    rw [impl_opRight.fv_eq, hf, Option.bind_some, if_neg hn]
    cases e <;> by_cases hb : 0 ≤ b ∧ b ≤ 1 <;> simp [hb, he1, he2, he3, hr1, hr2, B_toList, opForm, in_eq, in_eq', spec_DecOk.f, impl_DecOk.f, spec_l13Op.fv_eq, spec_l13Op.j0v_eq, spec_l13Op.j1v_eq, spec_l13Op.j2v_eq, spec_l13Op.j3v_eq, impl_opRight.j0v_eq, impl_opRight.j1v_eq, impl_opRight.j2v_eq, impl_opRight.j3v_eq, impl_opRight.j4v_eq]
  have hform : opForm a = [] := by simp [opForm, k1, k2, k24, k25, k29, k3, k4, k5, k6, k7, k8, k35, k30, k31, k33]
  by_cases h : 1 ≤ a ∧ a ≤ 36
  · obtain ⟨nm, hn, hf⟩ := op_name a h.1 h.2
    rw [impl_opRight.fv_eq, hf, Option.bind_some, if_neg hn]
    cases e <;> by_cases hb : b = 0 <;> simp [hb, h, he1, he2, he3, B_toList, hform, in_eq, in_eq', k1, k2, k24, k25, k29, k3, k4, k5, k6, k7, k8, k35, k30, k31, k33, spec_l13Op.fv_eq, spec_l13Op.j0v_eq, spec_l13Op.j1v_eq, spec_l13Op.j2v_eq, spec_l13Op.j3v_eq, impl_opRight.j0v_eq, impl_opRight.j1v_eq, impl_opRight.j2v_eq, impl_opRight.j3v_eq, impl_opRight.j4v_eq]
  · refine ⟨false, ?_, ?_⟩
    · simp [h, in_eq, k1, k2, k24, k25, k29, k3, k4, k5, k6, k7, k8, k35, k30, k31, k33, spec_l13Op.fv_eq, spec_l13Op.j0v_eq, spec_l13Op.j1v_eq, spec_l13Op.j2v_eq, spec_l13Op.j3v_eq, impl_opRight.j0v_eq, impl_opRight.j1v_eq, impl_opRight.j2v_eq, impl_opRight.j3v_eq, impl_opRight.j4v_eq]
    · rw [impl_opRight.fv_eq, op_out a h, Option.bind_some, if_pos (by rw [B_toList]), impl_opRight.j0v_eq, if_pos rfl]

theorem ops_loops (x : List S81) (v k : Int) (hl : x.length ≤ 1048576) (d : Nat) : ∀ i : Nat, x.length - i = d →
    ∃ (b : Bool) (r : Int), spec_OpsOk.l0v x v k (x.length : Int) i = some b ∧ slices_IndexFunc_impl_Op_impl_Op__impl_OpsOk_1.l0v x (x.length : Int) i x v k = some r ∧ b = !decide (r ≥ 0) := by
  induction d with
  | zero =>
    intro i h1
    exact ⟨true, -1, by rw [spec_OpsOk.l0v_eq, if_neg (by omega)], by rw [slices_IndexFunc_impl_Op_impl_Op__impl_OpsOk_1.l0v_eq, if_neg (by omega)], rfl⟩
  | succ d ih =>
    intro i h1
    have hi : i < x.length := by omega
    have hw : wrap64 ((i : Int) + 1) = ((i + 1 : Nat) : Int) := by rw [wrap_in (by omega) (by omega)]; omega
    obtain ⟨b, r, e1, e2, e3⟩ := ih (i + 1) (by omega)
    obtain ⟨q, h1, h2⟩ := op_both x[i].f0 x[i].f1 x[i].f2 (x.length : Int) v k
    have c1 : (i : Int) < (x.length : Int) := by omega
    have c0 : (0 : Int) ≤ (i : Int) := by omega
    rw [spec_OpsOk.l0v_eq, if_pos c1, if_pos c0, if_pos c1, slices_IndexFunc_impl_Op_impl_Op__impl_OpsOk_1.l0v_eq, if_pos c1, if_pos c0, if_pos c1, rdin81 x i hi, impl_OpsOk_1.fv_eq, h1, h2]
    simp only [Option.bind_some, hw, e1, e2]
    cases q
    · exact ⟨false, i, by simp, by simp, by simp⟩
    · exact ⟨b, r, by simp, by simp, e3⟩
theorem ops_both (x : List S81) (v k : Int) (hl : x.length ≤ 1048576) : ∃ b : Bool, spec_OpsOk.fv x v k = some b ∧ impl_OpsOk.fv x v k = some b := by
  rw [spec_OpsOk.fv_eq, impl_OpsOk.fv_eq, in_eq, in_eq', Option.bind_some, Option.bind_some]
  by_cases hn : 1 ≤ (x.length : Int) ∧ (x.length : Int) ≤ 1500
  · have hw2 : wrap64 ((x.length : Int) - 1) = (x.length : Int) - 1 := wrap_in (by omega) (by omega)
    have c1 : (0 : Int) ≤ (x.length : Int) - 1 := by omega
    have c2 : (x.length : Int) - 1 < (x.length : Int) := by omega
    rw [if_pos (decide_eq_true hn), if_pos (decide_eq_true hn), hw2, if_pos c1, if_pos c2, if_pos c1, if_pos c2, spec_OpsOk.j0v_eq]
    generalize (rd_T81 x ((x.length : Int) - 1)).f0 = a
    by_cases h36 : a = 36
    · obtain ⟨b, r, e1, e2, e3⟩ := ops_loops x v k hl _ 0 rfl
      have e1' : spec_OpsOk.l0v x v k (x.length : Int) 0 = some b := e1
      have e2' : slices_IndexFunc_impl_Op_impl_Op__impl_OpsOk_1.l0v x (x.length : Int) 0 x v k = some r := e2
      refine ⟨b, ?_, ?_⟩
      · rw [if_neg (by simp [h36]), e1']
      · rw [if_pos h36, slices_ContainsFunc_impl_Op_impl_Op__impl_OpsOk_1.fv_eq, slices_IndexFunc_impl_Op_impl_Op__impl_OpsOk_1.fv_eq, e2', Option.bind_some, Option.bind_some, e3]
    · exact ⟨false, by rw [if_pos (by simp [h36])], by rw [if_neg h36]⟩
  · refine ⟨false, ?_, ?_⟩
    · rw [if_neg (by rw [decide_eq_true_eq]; exact hn), spec_OpsOk.j0v_eq, if_pos rfl]
    · rw [if_neg (by rw [decide_eq_true_eq]; exact hn)]

/-! ### names of a machine -/
noncomputable def nmv (c : ByteArray) : Bool := (spec_l9Name.fv c).getD false
theorem nm_s (c : ByteArray) (hl : c.size ≤ 1048576) : spec_l9Name.fv c = some (nmv c) := by
  obtain ⟨b, e1, e2⟩ := name_both c hl
  unfold nmv; rw [e1]; rfl
theorem nm_i (c : ByteArray) (hl : c.size ≤ 1048576) : impl_isName.fv c = some (nmv c) := by
  obtain ⟨b, e1, e2⟩ := name_both c hl
  unfold nmv; rw [e1, e2]; rfl
def al (p : Nat → Bool) (i : Nat) : Nat → Bool
  | 0 => true
  | d + 1 => p i && al p (i + 1) d
theorem al_and (p q : Nat → Bool) : ∀ d i, al (fun k => p k && q k) i d = (al p i d && al q i d)
  | 0, _ => rfl
  | d + 1, i => by
    simp only [al, al_and p q d (i + 1)]
    cases p i <;> cases q i <;> cases al p (i + 1) d <;> rfl
def at_ (x : List ByteArray) (i : Nat) : ByteArray := rdOf ByteArray.empty x (i : Int)
/-- A name that stands as it should. -/
noncomputable def gd (x : List ByteArray) (i : Nat) : Bool := nmv (at_ x i) && (decide (i = 0) || Op.bytesLess (at_ x (i - 1)).toList (at_ x i).toList)
def inC (x c : List ByteArray) (i : Nat) : Bool := !decide ((at_ x i).toList ∈ c.map ByteArray.toList)
theorem namesOk_loop (x : List ByteArray) (hl : x.length ≤ 1048576) (hs : ∀ c ∈ x, c.size ≤ 1048576) (d : Nat) : ∀ i : Nat, x.length - i = d → i ≤ x.length →
    impl_namesOk.l0v x x (x.length : Int) i = some (al (gd x) i d && decide ((x.length : Int) ≤ 8)) := by
  induction d with
  | zero => intro i h1 h2; rw [impl_namesOk.l0v_eq, if_neg (by omega)]; rfl
  | succ d ih =>
    intro i h1 h2
    have hi : i < x.length := by omega
    have c0 : (0 : Int) ≤ (i : Int) := by omega
    have c1 : (i : Int) < (x.length : Int) := by omega
    have hw : wrap64 ((i : Int) + 1) = ((i + 1 : Nat) : Int) := by rw [wrap_in (by omega) (by omega)]; omega
    have hz : (rdOf ByteArray.empty x (i : Int)).size ≤ 1048576 := by rw [rdOf_in x i hi]; exact hs _ (List.getElem_mem _)
    rw [impl_namesOk.l0v_eq, if_pos c1, if_pos c0, if_pos c1, nm_i _ hz, Option.bind_some]
    simp only [al, gd, at_]
    cases nmv (rdOf ByteArray.empty x (i : Int)) with
    | false => simp
    | true =>
      rw [if_pos rfl, hw, ih (i + 1) (by omega) (by omega)]
      by_cases h0 : i = 0
      · subst h0; simp
      · have hw2 : wrap64 ((i : Int) - 1) = ((i - 1 : Nat) : Int) := by rw [wrap_in (by omega) (by omega)]; omega
        rw [if_pos (show (i : Int) > 0 by omega), hw2, if_pos (by omega), if_pos (by omega)]
        cases Op.bytesLess (rdOf ByteArray.empty x ((i - 1 : Nat) : Int)).toList (rdOf ByteArray.empty x (i : Int)).toList <;> simp [h0]
theorem namesOk (x : List ByteArray) (hl : x.length ≤ 1048576) (hs : ∀ c ∈ x, c.size ≤ 1048576) : impl_namesOk.fv x = some (al (gd x) 0 x.length && decide ((x.length : Int) ≤ 8)) := by
  rw [impl_namesOk.fv_eq]; exact namesOk_loop x hl hs _ 0 rfl (by omega)
theorem cells_loop (V C : List ByteArray) (S M : List S81) (hl : C.length ≤ 1048576) (hs : ∀ c ∈ C, c.size ≤ 1048576) (d : Nat) : ∀ i : Nat, C.length - i = d → i ≤ C.length →
    spec_ProgOk.l1v (i : Int) V C S M = if al (gd C) i d = true then spec_ProgOk.l1v (C.length : Int) V C S M else some false := by
  induction d with
  | zero => intro i h1 h2; have : i = C.length := by omega
            subst this; simp [al]
  | succ d ih =>
    intro i h1 h2
    have hi : i < C.length := by omega
    have c0 : (0 : Int) ≤ (i : Int) := by omega
    have c1 : (i : Int) < (C.length : Int) := by omega
    have hw : wrap64 ((i : Int) + 1) = ((i + 1 : Nat) : Int) := by rw [wrap_in (by omega) (by omega)]; omega
    have hz : (rdOf ByteArray.empty C (i : Int)).size ≤ 1048576 := by rw [rdOf_in C i hi]; exact hs _ (List.getElem_mem _)
    rw [spec_ProgOk.l1v_eq, if_pos c1, if_pos c0, nm_s _ hz, Option.bind_some, show al (gd C) i (d + 1) = (gd C i && al (gd C) (i + 1) d) from rfl]
    by_cases hn : nmv (rdOf ByteArray.empty C (i : Int)) = true
    · rw [if_pos hn]
      by_cases h0 : i = 0
      · have hg : gd C i = true := by simp [gd, at_, hn, h0]; rw [h0] at hn; exact hn
        rw [if_neg (by omega), spec_ProgOk.j1v_eq, if_neg (by simp), hw, ih (i + 1) (by omega) (by omega), hg, Bool.true_and]
      · have hw2 : wrap64 ((i : Int) - 1) = ((i - 1 : Nat) : Int) := by rw [wrap_in (by omega) (by omega)]; omega
        have hg : gd C i = Op.bytesLess (rdOf ByteArray.empty C ((i - 1 : Nat) : Int)).toList (rdOf ByteArray.empty C (i : Int)).toList := by simp [gd, at_, hn, h0]
        rw [if_pos (show (i : Int) > 0 by omega), hw2, if_pos (by omega), if_pos (by omega), spec_ProgOk.j1v_eq, hw, ih (i + 1) (by omega) (by omega), hg]
        cases Op.bytesLess (rdOf ByteArray.empty C ((i - 1 : Nat) : Int)).toList (rdOf ByteArray.empty C (i : Int)).toList <;> simp
    · have hg : gd C i = false := by simp [gd, at_, hn]
      rw [if_neg hn, spec_ProgOk.j1v_eq, if_pos rfl, hg]; simp
theorem vars_loop (V C : List ByteArray) (S M : List S81) (hl : V.length ≤ 1048576) (hc : C.length ≤ 1048576) (hs : ∀ c ∈ V, c.size ≤ 1048576) (d : Nat) : ∀ i : Nat, V.length - i = d → i ≤ V.length →
    spec_ProgOk.l0v (i : Int) V C S M = if al (fun k => gd V k && inC V C k) i d = true then spec_ProgOk.l1v 0 V C S M else some false := by
  induction d with
  | zero => intro i h1 h2; rw [spec_ProgOk.l0v_eq, if_neg (by omega)]; simp [al]
  | succ d ih =>
    intro i h1 h2
    have hi : i < V.length := by omega
    have c0 : (0 : Int) ≤ (i : Int) := by omega
    have c1 : (i : Int) < (V.length : Int) := by omega
    have hw : wrap64 ((i : Int) + 1) = ((i + 1 : Nat) : Int) := by rw [wrap_in (by omega) (by omega)]; omega
    have hz : (rdOf ByteArray.empty V (i : Int)).size ≤ 1048576 := by rw [rdOf_in V i hi]; exact hs _ (List.getElem_mem _)
    rw [spec_ProgOk.l0v_eq, if_pos c1, if_pos c0, nm_s _ hz, Option.bind_some, show al (fun k => gd V k && inC V C k) i (d + 1) = ((gd V i && inC V C i) && al (fun k => gd V k && inC V C k) (i + 1) d) from rfl]
    by_cases hn : nmv (rdOf ByteArray.empty V (i : Int)) = true
    · rw [if_pos hn, within _ _ (by omega), Option.bind_some]
      by_cases hm : (rdOf ByteArray.empty V (i : Int)).toList ∈ C.map ByteArray.toList
      · have hg : inC V C i = false := by unfold inC at_; rw [decide_eq_true hm]; rfl
        rw [if_pos (decide_eq_true hm), spec_ProgOk.j0v_eq, if_pos rfl, hg]; simp
      · have hg2 : inC V C i = true := by unfold inC at_; rw [decide_eq_false hm]; rfl
        rw [if_neg (by rw [decide_eq_false hm]; simp), hg2, Bool.and_true]
        by_cases h0 : i = 0
        · have hg : gd V i = true := by simp [gd, at_, hn, h0]; rw [h0] at hn; exact hn
          rw [if_neg (by omega), spec_ProgOk.j0v_eq, if_neg (by simp), hw, ih (i + 1) (by omega) (by omega), hg, Bool.true_and]
        · have hw2 : wrap64 ((i : Int) - 1) = ((i - 1 : Nat) : Int) := by rw [wrap_in (by omega) (by omega)]; omega
          have hg : gd V i = Op.bytesLess (rdOf ByteArray.empty V ((i - 1 : Nat) : Int)).toList (rdOf ByteArray.empty V (i : Int)).toList := by simp [gd, at_, hn, h0]
          rw [if_pos (show (i : Int) > 0 by omega), hw2, if_pos (by omega), if_pos (by omega), spec_ProgOk.j0v_eq, hw, ih (i + 1) (by omega) (by omega), hg]
          cases Op.bytesLess (rdOf ByteArray.empty V ((i - 1 : Nat) : Int)).toList (rdOf ByteArray.empty V (i : Int)).toList <;> simp
    · have hg : gd V i = false := by simp [gd, at_, hn]
      rw [if_neg hn, spec_ProgOk.j0v_eq, if_pos rfl, hg]; simp
theorem some_loop (V W C : List ByteArray) (S M : List S81) (hl : V.length ≤ 1048576) (hc : C.length ≤ 1048576) (d : Nat) : ∀ i : Nat, V.length - i = d → i ≤ V.length →
    ∃ r : Int, slices_IndexFunc_string_string__impl_ProgOk_1.l0v V (V.length : Int) i W C S M = some r ∧ decide (r ≥ 0) = !al (inC V C) i d := by
  induction d with
  | zero => intro i h1 h2; exact ⟨-1, by rw [slices_IndexFunc_string_string__impl_ProgOk_1.l0v_eq, if_neg (by omega)], by simp [al]⟩
  | succ d ih =>
    intro i h1 h2
    have hi : i < V.length := by omega
    have c0 : (0 : Int) ≤ (i : Int) := by omega
    have c1 : (i : Int) < (V.length : Int) := by omega
    have hw : wrap64 ((i : Int) + 1) = ((i + 1 : Nat) : Int) := by rw [wrap_in (by omega) (by omega)]; omega
    obtain ⟨r, e1, e2⟩ := ih (i + 1) (by omega) (by omega)
    rw [slices_IndexFunc_string_string__impl_ProgOk_1.l0v_eq, if_pos c1, if_pos c0, if_pos c1, impl_ProgOk_1.fv_eq, contains _ _ (by omega), Option.bind_some, Option.bind_some, hw, e1, show al (inC V C) i (d + 1) = (inC V C i && al (inC V C) (i + 1) d) from rfl]
    by_cases hm : (rdOf ByteArray.empty V (i : Int)).toList ∈ C.map ByteArray.toList
    · have hg : inC V C i = false := by unfold inC at_; rw [decide_eq_true hm]; rfl
      exact ⟨i, by rw [if_pos (decide_eq_true hm)], by rw [hg]; simp⟩
    · have hg : inC V C i = true := by unfold inC at_; rw [decide_eq_false hm]; rfl
      exact ⟨r, by rw [if_neg (by rw [decide_eq_false hm]; simp)], by rw [hg, Bool.true_and]; exact e2⟩
theorem prog_both (V C : List ByteArray) (S M : List S81) (hV : V.length ≤ 1048576) (hC : C.length ≤ 1048576) (hs : ∀ c ∈ V, c.size ≤ 1048576) (ht : ∀ c ∈ C, c.size ≤ 1048576) (hS : S.length ≤ 1048576) (hM : M.length ≤ 1048576) :
    ∃ b : Bool, spec_ProgOk.fv V C S M = some b ∧ impl_ProgOk.fv V C S M = some b := by
  obtain ⟨b1, e1, e1'⟩ := ops_both S (V.length : Int) (C.length : Int) hS
  obtain ⟨b2, e2, e2'⟩ := ops_both M (V.length : Int) (C.length : Int) hM
  have hv := vars_loop V C S M (by omega) hC hs _ 0 rfl (by omega)
  have hc := cells_loop V C S M (by omega) ht _ 0 rfl (by omega)
  obtain ⟨r, e3, e4⟩ := some_loop V V C S M (by omega) hC _ 0 rfl (by omega)
  have hv' : spec_ProgOk.l0v 0 V C S M = _ := hv
  have hc' : spec_ProgOk.l1v 0 V C S M = _ := hc
  have e3' : slices_IndexFunc_string_string__impl_ProgOk_1.l0v V (V.length : Int) 0 V C S M = some r := e3
  rw [al_and] at hv'
  have hend : spec_ProgOk.l1v (C.length : Int) V C S M = some (decide ((V.length : Int) ≤ 8) && decide ((C.length : Int) ≤ 8) && b1 && b2) := by
    rw [spec_ProgOk.l1v_eq, if_neg (by omega), e1, e2]
    by_cases h1 : (V.length : Int) ≤ 8
    · by_cases h2 : (C.length : Int) ≤ 8
      · cases b1 <;> simp [h1, h2]
      · simp [h1, h2]
    · simp [h1]
  rw [spec_ProgOk.fv_eq, hv', hc', hend, impl_ProgOk.fv_eq, namesOk V (by omega) hs, namesOk C (by omega) ht, slices_ContainsFunc_string_string__impl_ProgOk_1.fv_eq, slices_IndexFunc_string_string__impl_ProgOk_1.fv_eq, e3']
  simp only [Option.bind_some, impl_ProgOk.j0v_eq, e4, e1', e2', Nat.sub_zero]
  generalize al (gd V) 0 V.length = p1
  generalize al (gd C) 0 C.length = p2
  generalize al (inC V C) 0 V.length = p3
  generalize decide ((V.length : Int) ≤ 8) = q1
  generalize decide ((C.length : Int) ≤ 8) = q2
  cases p1 <;> cases p2 <;> cases p3 <;> cases q1 <;> cases q2 <;> cases b1 <;> cases b2 <;> exact ⟨_, rfl, rfl⟩

/-! ### rows of digits -/
def isD (b : UInt8) : Bool := decide (48 ≤ b.toNat) && decide (b.toNat ≤ 57)
def run (l : List UInt8) (i : Nat) : List UInt8 := (l.drop i).takeWhile isD
theorem run_end (l : List UInt8) (i : Nat) (h : l.length ≤ i) : run l i = [] := by unfold run; rw [List.drop_eq_nil_of_le h]; rfl
theorem run_step (l : List UInt8) (i : Nat) (h : i < l.length) : run l i = if isD l[i] then l[i] :: run l (i + 1) else [] := by
  unfold run
  rw [List.drop_eq_getElem_cons h, List.takeWhile_cons]
theorem run_le (l : List UInt8) (i : Nat) (h : i ≤ l.length) : i + (run l i).length ≤ l.length := by
  have h1 : (run l i).length ≤ (l.drop i).length := (List.takeWhile_sublist _).length_le
  rw [List.length_drop] at h1; omega
theorem run_all (l : List UInt8) (i : Nat) : ∀ b ∈ run l i, isD b = true := fun b hb => by
  have := List.all_takeWhile (p := isD) (l := l.drop i)
  exact List.all_eq_true.1 this b hb
theorem run_take (l : List UInt8) (i : Nat) : (l.drop i).take (run l i).length = run l i := by
  have := List.prefix_iff_eq_take.1 (List.takeWhile_prefix isD (l := l.drop i))
  exact this.symm
theorem isD_iff (b : UInt8) : isD b = true ↔ 48 ≤ b.toNat ∧ b.toNat ≤ 57 := by unfold isD; simp
theorem dig_spec (b : UInt8) : spec_l2Digit.f (b.toNat : Int) = some (isD b) := by
  unfold spec_l2Digit.f isD
  by_cases h : 48 ≤ b.toNat
  · rw [if_pos (by omega)]; simp [h]; omega
  · rw [if_neg (by omega)]; simp [h]
def acc (n : Int) : List UInt8 → Int
  | [] => n
  | b :: r => acc (if n ≤ 9000000000000 then 10 * n + ((b.toNat : Int) - 48) * 1000000 else n) r
def fr (n u : Int) : List UInt8 → Int
  | [] => n
  | b :: r => fr (n + ((b.toNat : Int) - 48) * u) (u / 10) r
def val (a : Nat) : List UInt8 → Nat
  | [] => a
  | b :: r => val (a * 10 + (b.toNat - 48)) r
theorem acc_bd (l : List UInt8) : ∀ n : Int, (∀ b ∈ l, isD b = true) → 0 ≤ n → n ≤ 100000000000000 → 0 ≤ acc n l ∧ acc n l ≤ 100000000000000 := by
  induction l with
  | nil => intro n _ h0 h1; exact ⟨h0, h1⟩
  | cons b r ih =>
    intro n hl h0 h1
    have hb := (isD_iff b).1 (hl b List.mem_cons_self)
    refine ih _ (fun c hc => hl c (List.mem_cons_of_mem _ hc)) ?_ ?_ <;> split <;> omega
theorem acc_stop (l : List UInt8) : ∀ n : Int, 9000000000000 < n → acc n l = n := by
  induction l with
  | nil => intro n _; rfl
  | cons b r ih => intro n h; unfold acc; rw [if_neg (by omega)]; exact ih n h
theorem val_ge (l : List UInt8) : ∀ a : Nat, a ≤ val a l := by
  induction l with
  | nil => intro a; exact Nat.le_refl _
  | cons b r ih => intro a; unfold val; exact Nat.le_trans (by omega) (ih _)
theorem acc_val (l : List UInt8) : ∀ v : Nat, (∀ b ∈ l, isD b = true) → v ≤ 9000000 → (val v l ≤ 9000000 → acc ((v : Int) * 1000000) l = (val v l : Int) * 1000000) ∧ (9000000 < val v l → 9000000000000 < acc ((v : Int) * 1000000) l) := by
  induction l with
  | nil => intro v _ h; exact ⟨fun _ => rfl, fun h2 => by unfold val at h2; omega⟩
  | cons b r ih =>
    intro v hl h
    have hb := (isD_iff b).1 (hl b List.mem_cons_self)
    unfold acc val
    rw [if_pos (by omega), show 10 * ((v : Int) * 1000000) + ((b.toNat : Int) - 48) * 1000000 = ((v * 10 + (b.toNat - 48) : Nat) : Int) * 1000000 by omega]
    generalize hv : v * 10 + (b.toNat - 48) = v2
    by_cases h2 : v2 ≤ 9000000
    · exact ih v2 (fun c hc => hl c (List.mem_cons_of_mem _ hc)) h2
    · have := val_ge r v2
      refine ⟨fun h3 => by omega, fun _ => ?_⟩
      rw [acc_stop _ _ (by omega)]; omega
theorem fr_add (l : List UInt8) : ∀ n u : Int, fr n u l = n + fr 0 u l := by
  induction l with
  | nil => intro n u; simp [fr]
  | cons b r ih =>
    intro n u
    unfold fr
    rw [ih (n + _), ih (0 + _)]; omega
theorem fr_bd (l : List UInt8) : ∀ u : Int, (∀ b ∈ l, isD b = true) → 0 ≤ u → 0 ≤ fr 0 u l ∧ fr 0 u l ≤ 10 * u := by
  induction l with
  | nil => intro u _ h; unfold fr; omega
  | cons b r ih =>
    intro u hl h
    have hb := (isD_iff b).1 (hl b List.mem_cons_self)
    unfold fr
    rw [fr_add]
    have := ih (u / 10) (fun c hc => hl c (List.mem_cons_of_mem _ hc)) (by omega)
    obtain ⟨d, hd, hd2⟩ : ∃ d : Nat, (b.toNat : Int) - 48 = d ∧ d ≤ 9 := ⟨b.toNat - 48, by omega, by omega⟩
    rw [hd]
    have hm : (d : Int) * u ≤ 9 * u := Int.mul_le_mul_of_nonneg_right (by omega) h
    have hm0 : 0 ≤ (d : Int) * u := Int.mul_nonneg (by omega) h
    omega

/-! ### the reference's loops -/
theorem spec_l1 (l : List UInt8) (hl : l.length ≤ 1048576) (neg : Bool) (d : Nat) : ∀ (i : Nat) (n many : Int), l.length - i ≤ d → i ≤ l.length → 0 ≤ n → n ≤ 100000000000000 → 0 ≤ many → many + (l.length - i : Nat) ≤ 2000000 →
    spec_DecFront.l1v (B l) (i : Int) neg n many = spec_DecFront.j6v (B l) ((i + (run l i).length : Nat) : Int) neg (acc n (run l i)) (many + ((run l i).length : Int)) false := by
  induction d with
  | zero =>
    intro i n many h1 h2 _ _ _ _
    rw [spec_DecFront.l1v_eq, if_neg (by rw [B_size]; omega), run_end l i (by omega)]
    simp [acc]
  | succ d ih =>
    intro i n many h1 h2 h3 h4 h5 h6
    rw [spec_DecFront.l1v_eq]
    by_cases h : i < l.length
    · rw [if_pos (by rw [B_size]; omega), if_pos (by omega), B_bt l i h, dig_spec, Option.bind_some, run_step l i h]
      by_cases hd : isD l[i] = true
      · have hb := (isD_iff _).1 hd
        rw [hd, if_pos rfl, spec_DecFront.j6v_eq, if_pos rfl]
        have e1 : wrap64 ((i : Int) + 1) = ((i + 1 : Nat) : Int) := by rw [wrap_in (by omega) (by omega)]; omega
        have e2 : wrap64 (many + 1) = many + 1 := wrap_in (by omega) (by omega)
        by_cases hn : n ≤ 9000000000000
        · rw [if_pos hn, if_pos (by omega), if_pos (by rw [B_size]; omega), B_bt l i h, e1, e2, wrap_in (n := ((l[i].toNat : Nat) : Int)) (by omega) (by omega), wrap_in (n := 10 * n) (by omega) (by omega), wrap_in (n := (l[i].toNat : Int) - 48) (by omega) (by omega), wrap_in (n := ((l[i].toNat : Int) - 48) * 1000000) (by omega) (by omega), wrap_in (by omega) (by omega)]
          rw [ih (i + 1) _ _ (by omega) (by omega) (by omega) (by omega) (by omega) (by omega)]
          simp only [List.length_cons, acc, if_pos hn]
          congr 1 <;> omega
        · rw [if_neg hn, e1, e2, ih (i + 1) _ _ (by omega) (by omega) (by omega) (by omega) (by omega) (by omega)]
          simp only [List.length_cons, acc, if_neg hn]
          congr 1 <;> omega
      · rw [Bool.not_eq_true] at hd
        rw [hd]
        simp [acc]
    · rw [if_neg (by rw [B_size]; omega), run_end l i (by omega)]
      simp [acc]
theorem spec_l2 (l : List UInt8) (hl : l.length ≤ 1048576) (neg : Bool) (d : Nat) : ∀ (i : Nat) (n many u : Int), l.length - i ≤ d → i ≤ l.length → 0 ≤ n → 0 ≤ u → u ≤ 100000 → n + 10 * u ≤ 200000000000000 → 0 ≤ many → many + (l.length - i : Nat) ≤ 4000000 →
    spec_DecFront.l2v (B l) (i : Int) neg n many u = spec_DecFront.j9v ((i + (run l i).length : Nat) : Int) neg (fr n u (run l i)) (many + ((run l i).length : Int)) := by
  induction d with
  | zero =>
    intro i n many u h1 h2 _ _ _ _ _ _
    rw [spec_DecFront.l2v_eq, if_neg (by rw [B_size]; omega), run_end l i (by omega)]
    simp [fr]
  | succ d ih =>
    intro i n many u h1 h2 h3 h4 h5 h6 h7 h8
    rw [spec_DecFront.l2v_eq]
    by_cases h : i < l.length
    · rw [if_pos (by rw [B_size]; omega), if_pos (by omega), B_bt l i h, dig_spec, Option.bind_some, run_step l i h]
      by_cases hd : isD l[i] = true
      · have hb := (isD_iff _).1 hd
        rw [hd, if_pos rfl, if_pos rfl]
        obtain ⟨q, hq, hq2⟩ : ∃ q : Nat, (l[i].toNat : Int) - 48 = q ∧ q ≤ 9 := ⟨l[i].toNat - 48, by omega, by omega⟩
        have hm : (q : Int) * u ≤ 9 * u := Int.mul_le_mul_of_nonneg_right (by omega) h4
        have hm0 : 0 ≤ (q : Int) * u := Int.mul_nonneg (by omega) h4
        rw [show wrap64 ((i : Int) + 1) = ((i + 1 : Nat) : Int) by rw [wrap_in (by omega) (by omega)]; omega, wrap_in (n := many + 1) (by omega) (by omega), wrap_in (n := ((l[i].toNat : Nat) : Int)) (by omega) (by omega), hq, wrap_in (n := (q : Int)) (by omega) (by omega), wrap_in (n := (q : Int) * u) (by omega) (by omega), wrap_in (n := n + (q : Int) * u) (by omega) (by omega), Int.tdiv_eq_ediv_of_nonneg h4, wrap_in (n := u / 10) (by omega) (by omega)]
        rw [ih (i + 1) _ _ _ (by omega) (by omega) (by omega) (by omega) (by omega) (by omega) (by omega) (by omega)]
        simp only [List.length_cons, fr, hq]
        congr 1 <;> omega
      · rw [Bool.not_eq_true] at hd
        rw [hd]
        simp [fr]
    · rw [if_neg (by rw [B_size]; omega), run_end l i (by omega)]
      simp [fr]

/-! ### what both come to, behind blanks and sign -/
def restOf (l : List UInt8) (e : Nat) : List UInt8 := if l[e]? = some 46 then run l (e + 1) else []
def tailOf (l : List UInt8) (q : Nat) (neg : Bool) : Int × Int :=
  let ws := run l q; let e := q + ws.length; let rs := restOf l e
  if ws = [] ∧ rs = [] then (0, 0) else
  let n : Int := (val 0 ws : Int) * 1000000 + fr 0 100000 rs
  if n ≤ 9000000000000 then (if neg then -n else n, ((if rs = [] then e else e + 1 + rs.length : Nat) : Int)) else (0, 0)
theorem spec_j9 (e : Nat) (neg : Bool) (n many : Int) (_he : e ≤ 2000000) (h0 : 0 ≤ n) (h1 : n ≤ 200000000000000) : spec_DecFront.j9v (e : Int) neg n many = some (if many = 0 then (0, 0) else if n ≤ 9000000000000 then (if neg then -n else n, (e : Int)) else (0, 0)) := by
  rw [spec_DecFront.j9v_eq]
  by_cases h : many = 0
  · rw [if_pos h, if_pos h, spec_DecFront.j10v_eq, if_pos rfl]
  · rw [if_neg h, if_neg h, spec_DecFront.j10v_eq]
    by_cases hn : n ≤ 9000000000000
    · rw [if_neg (by simpa using hn), if_pos hn]
      cases neg
      · simp
      · rw [if_pos rfl, wrap_in (by omega) (by omega)]; simp
    · rw [if_pos (by simpa using hn), if_neg hn]
theorem ws_bd (l : List UInt8) (q : Nat) : (val 0 (run l q) ≤ 9000000 → acc 0 (run l q) = (val 0 (run l q) : Int) * 1000000) ∧ (9000000 < val 0 (run l q) → 9000000000000 < acc 0 (run l q)) := by
  have := acc_val (run l q) 0 (run_all l q) (by omega)
  simpa using this
theorem spec_tail (l : List UInt8) (hl : l.length ≤ 1048576) (q : Nat) (hq : q ≤ l.length) (neg : Bool) : spec_DecFront.j4v (B l) (q : Int) neg = some (tailOf l q neg) := by
  rw [spec_DecFront.j4v_eq, spec_l1 l hl neg _ q 0 0 (Nat.le_refl _) hq (by omega) (by omega) (by omega) (by omega)]
  have hr := run_le l q hq
  have hab := acc_bd (run l q) 0 (run_all l q) (by omega) (by omega)
  obtain ⟨hv1, hv2⟩ := ws_bd l q
  unfold tailOf
  simp only []
  generalize hw : run l q = ws at *
  generalize he : q + ws.length = e at *
  rw [spec_DecFront.j6v_eq, if_neg (by simp)]
  have e1 : wrap64 ((e : Int) + 1) = ((e + 1 : Nat) : Int) := by rw [wrap_in (by omega) (by omega)]; omega
  rw [e1]
  have hnone : restOf l e = [] → spec_DecFront.j7v (B l) (e : Int) neg (acc 0 ws) (0 + (ws.length : Int)) false = some (if ws = [] ∧ restOf l e = [] then (0, 0) else if (val 0 ws : Int) * 1000000 + fr 0 100000 (restOf l e) ≤ 9000000000000 then (if neg then -((val 0 ws : Int) * 1000000 + fr 0 100000 (restOf l e)) else (val 0 ws : Int) * 1000000 + fr 0 100000 (restOf l e), ((if restOf l e = [] then e else e + 1 + (restOf l e).length : Nat) : Int)) else (0, 0)) := by
    intro h0
    rw [spec_DecFront.j7v_eq, if_neg (by simp), spec_j9 e neg _ _ (by omega) (by omega) (by omega), h0]
    by_cases hws : ws = []
    · subst hws; simp
    · have hlen : 0 < ws.length := List.length_pos_iff.2 hws
      have c1 : ¬ (0 + (ws.length : Int) = 0) := by omega
      have c2 : ¬ (ws = [] ∧ ([] : List UInt8) = []) := fun x => hws x.1
      rw [if_neg c1, if_neg c2]
      simp only [fr, Int.add_zero, if_true]
      by_cases hv : val 0 ws ≤ 9000000
      · rw [hv1 hv]
      · have h9 := hv2 (by omega)
        have c3 : ¬ (acc 0 ws ≤ 9000000000000) := by omega
        have c4 : ¬ ((val 0 ws : Int) * 1000000 ≤ 9000000000000) := by omega
        rw [if_neg c3, if_neg c4]
  by_cases h1 : e + 1 < l.length
  · have hel : e < l.length := by omega
    rw [if_pos (by rw [B_size]; omega), if_pos (by omega), if_pos (by rw [B_size]; omega), B_bt l e hel]
    have hdot := byte_is l[e] 46 46 rfl
    by_cases hd : l[e] = 46
    · rw [if_pos (hdot.2 hd), if_pos (by omega), B_bt l (e + 1) h1, dig_spec, Option.bind_some]
      have hrest : restOf l e = run l (e + 1) := by unfold restOf; rw [List.getElem?_eq_getElem hel, hd, if_pos rfl]
      by_cases hdd : isD l[e + 1] = true
      · rw [hdd, spec_DecFront.j7v_eq, if_pos rfl, e1, spec_l2 l hl neg _ (e + 1) _ _ _ (Nat.le_refl _) (by omega) (by omega) (by omega) (by omega) (by omega) (by omega) (by omega), fr_add]
        have hne : run l (e + 1) ≠ [] := by rw [run_step l (e + 1) h1, hdd]; simp
        have hlen : 0 < (run l (e + 1)).length := List.length_pos_iff.2 hne
        have hr2 := run_le l (e + 1) (by omega)
        have hf := fr_bd (run l (e + 1)) 100000 (run_all _ _) (by omega)
        have c1 : ¬ (0 + (ws.length : Int) + ((run l (e + 1)).length : Int) = 0) := by omega
        have c2 : ¬ (ws = [] ∧ run l (e + 1) = []) := fun x => hne x.2
        rw [spec_j9 _ neg _ _ (by omega) (by omega) (by omega), hrest, if_neg c1, if_neg c2, if_neg hne]
        by_cases hv : val 0 ws ≤ 9000000
        · rw [hv1 hv]
        · have h9 := hv2 (by omega)
          have c3 : ¬ (acc 0 ws + fr 0 100000 (run l (e + 1)) ≤ 9000000000000) := by omega
          have c4 : ¬ ((val 0 ws : Int) * 1000000 + fr 0 100000 (run l (e + 1)) ≤ 9000000000000) := by omega
          rw [if_neg c3, if_neg c4]
      · rw [Bool.not_eq_true] at hdd
        rw [hdd]
        exact hnone (by rw [hrest, run_step l (e + 1) h1, hdd]; simp)
    · rw [if_neg (fun x => hd (hdot.1 x))]
      exact hnone (by unfold restOf; rw [List.getElem?_eq_getElem hel, if_neg (by simpa using hd)])
  · rw [if_neg (by rw [B_size]; omega)]
    refine hnone ?_
    unfold restOf
    split
    · exact run_end l _ (by omega)
    · rfl

/-! ### the program's side -/
theorem digs_loop (l : List UInt8) (hl : l.length ≤ 1048576) (i : Nat) (d : Nat) : ∀ k : Nat, l.length - (i + k) ≤ d → i + k ≤ l.length → impl_digitsAt.l0v (B l) (i : Int) (k : Int) = some ((k + (run l (i + k)).length : Nat) : Int) := by
  induction d with
  | zero =>
    intro k h1 h2
    rw [impl_digitsAt.l0v_eq, wrap_in (by omega) (by omega), if_neg (by rw [B_size]; omega), run_end l _ (by omega)]
    simp
  | succ d ih =>
    intro k h1 h2
    rw [impl_digitsAt.l0v_eq, wrap_in (n := (i : Int) + k) (by omega) (by omega)]
    by_cases h : i + k < l.length
    · rw [if_pos (by rw [B_size]; omega), if_pos (by omega), show (i : Int) + k = ((i + k : Nat) : Int) by omega, B_bt l (i + k) h, run_step l (i + k) h]
      by_cases hd : isD l[i + k] = true
      · have hb := (isD_iff _).1 hd
        rw [if_pos (by omega), if_pos (by omega), wrap_in (by omega) (by omega), show (k : Int) + 1 = ((k + 1 : Nat) : Int) by omega, ih (k + 1) (by omega) (by omega), hd]
        simp [Nat.add_assoc, Nat.add_comm]
      · have hb : ¬ (48 ≤ l[i + k].toNat ∧ l[i + k].toNat ≤ 57) := fun e => hd ((isD_iff _).2 e)
        rw [Bool.not_eq_true] at hd
        rw [hd]
        by_cases h48 : (l[i + k].toNat : Int) ≥ 48
        · rw [if_pos h48, if_neg (by omega)]; simp
        · rw [if_neg h48]; simp
    · rw [if_neg (by rw [B_size]; omega), run_end l _ (by omega)]
      simp
theorem digs (l : List UInt8) (hl : l.length ≤ 1048576) (i : Nat) (hi : i ≤ l.length) : impl_digitsAt.fv (B l) (i : Int) = some ((run l i).length : Int) := by
  rw [impl_digitsAt.fv_eq]
  have := digs_loop l hl i _ 0 (Nat.le_refl _) (by omega)
  simpa using this
theorem dec_val (ws : List UInt8) : ∀ a : Nat, (∀ b ∈ ws, isD b = true) → ∀ Y, Lib.decFrom a (ws ++ Y) = Lib.decFrom (val a ws) Y := by
  induction ws with
  | nil => intro a _ Y; rfl
  | cons b r ih =>
    intro a hl Y
    have hb := (isD_iff b).1 (hl b List.mem_cons_self)
    rw [List.cons_append, Lib.decFrom]
    have : Lib.digitVal b = some (b.toNat - 48) := by unfold Lib.digitVal; rw [if_pos hb]
    rw [this]
    exact ih _ (fun c hc => hl c (List.mem_cons_of_mem _ hc)) Y
theorem fr_cons (n u : Int) (b : UInt8) (r : List UInt8) : fr n u (b :: r) = fr (n + ((b.toNat : Int) - 48) * u) (u / 10) r := rfl
theorem atoi48 (x : List UInt8) : Lib.atoi (48 :: x) = (Lib.decNat (48 :: x)).map fun (m : Nat) => (m : Int) := by
  show (if ((48 : UInt8) == 45) = true then Option.map (fun m : Nat => -(m : Int)) (Lib.decNat x) else if ((48 : UInt8) == 43) = true then Option.map (fun m : Nat => (m : Int)) (Lib.decNat x) else Option.map (fun m : Nat => (m : Int)) (Lib.decNat (48 :: x))) = _
  rw [if_neg (by decide), if_neg (by decide)]
def ud : Nat → Int | 0 => 0 | k + 1 => 10 ^ k
theorem ud_div (k : Nat) : ud (k + 1) / 10 = ud k := by
  cases k with
  | zero => rfl
  | succ k => show (10 : Int) ^ (k + 1) / 10 = 10 ^ k; rw [Int.pow_succ]; omega
theorem pad (k : Nat) : ∀ (a : Nat) (rs : List UInt8) (z : Nat), k ≤ z → (∀ b ∈ rs, isD b = true) → ∃ m : Nat, Lib.decFrom a ((rs ++ List.replicate z 48).take k) = some m ∧ (m : Int) = (a : Int) * 10 ^ k + fr 0 (ud k) rs := by
  induction k with
  | zero =>
    intro a rs z _ hl
    refine ⟨a, by simp [Lib.decFrom], ?_⟩
    have : ∀ r : List UInt8, fr 0 0 r = 0 := by
      intro r
      induction r with
      | nil => rfl
      | cons b r ih => simp [fr, ih]
    simp [ud, this]
  | succ k ih =>
    intro a rs z hz hl
    have key : ∀ (b : UInt8) (X : List UInt8), isD b = true → Lib.decFrom a (b :: X) = Lib.decFrom (a * 10 + (b.toNat - 48)) X := by
      intro b X hb
      rw [Lib.decFrom]
      have : Lib.digitVal b = some (b.toNat - 48) := by unfold Lib.digitVal; rw [if_pos ((isD_iff b).1 hb)]
      rw [this]
    cases rs with
    | nil =>
      obtain ⟨z, rfl⟩ : ∃ y, z = y + 1 := ⟨z - 1, by omega⟩
      obtain ⟨m, hm, he⟩ := ih (a * 10 + 0) [] z (by omega) (by simp)
      refine ⟨m, ?_, ?_⟩
      · rw [List.nil_append, List.replicate_succ, List.take_succ_cons, key _ _ (by decide)]
        exact hm
      · rw [he]
        have e : ((a * 10 + 0 : Nat) : Int) = (a : Int) * 10 := by omega
        rw [show ∀ u, fr 0 u [] = 0 from fun _ => rfl, show ∀ u, fr 0 u [] = 0 from fun _ => rfl, e, Int.pow_succ, Int.mul_assoc, Int.mul_comm 10]
    | cons b r =>
      have hb := hl b List.mem_cons_self
      have hb2 := (isD_iff b).1 hb
      obtain ⟨m, hm, he⟩ := ih (a * 10 + (b.toNat - 48)) r z (by omega) (fun c hc => hl c (List.mem_cons_of_mem _ hc))
      refine ⟨m, ?_, ?_⟩
      · rw [List.cons_append, List.take_succ_cons, key _ _ hb]
        exact hm
      · rw [he]
        rw [fr_cons, fr_add r (0 + _), ud_div]
        have e : (((a * 10 + (b.toNat - 48) : Nat)) : Int) = (a : Int) * 10 + ((b.toNat : Int) - 48) := by omega
        rw [e, Int.add_mul, show ud (k + 1) = 10 ^ k from rfl, Int.pow_succ, Int.mul_assoc, Int.mul_comm 10, Int.zero_add, Int.add_assoc]
theorem val_trim (ws : List UInt8) : val 0 (ws.dropWhile (· == 48)) = val 0 ws := by
  induction ws with
  | nil => rfl
  | cons b r ih =>
    rw [List.dropWhile_cons]
    by_cases h : b = 48
    · subst h
      rw [if_pos (by simp), ih]; rfl
    · rw [if_neg (by simpa using h)]
theorem val_pow (ws : List UInt8) : ∀ a : Nat, a * 10 ^ ws.length ≤ val a ws := by
  induction ws with
  | nil =>
    intro a
    show a * 10 ^ 0 ≤ a
    rw [Nat.pow_zero, Nat.mul_one]
    exact Nat.le_refl _
  | cons b r ih =>
    intro a
    unfold val
    refine Nat.le_trans ?_ (ih _)
    rw [List.length_cons, Nat.pow_succ, Nat.mul_comm _ 10, ← Nat.mul_assoc]
    exact Nat.mul_le_mul_right _ (by omega)
theorem val_big (ws : List UInt8) (hd : ∀ b ∈ ws, isD b = true) (h : 7 < (ws.dropWhile (· == 48)).length) : 9000000 < val 0 ws := by
  rw [← val_trim]
  have hne : ∀ b r, ws.dropWhile (· == 48) = b :: r → b ≠ 48 := by
    intro b r e hb
    have := List.head_dropWhile_not (p := (· == (48 : UInt8))) (l := ws) (by rw [e]; simp)
    simp only [e, List.head_cons, hb] at this
    simp at this
  cases e : ws.dropWhile (· == 48) with
  | nil => rw [e] at h; simp at h
  | cons b r =>
    have h48 := hne b r e
    have hb := (isD_iff b).1 (hd b ((List.dropWhile_sublist _).subset (by rw [e]; exact List.mem_cons_self)))
    have hb3 : b.toNat ≠ 48 := fun x => h48 (UInt8.toNat_inj.1 x)
    unfold val
    have := val_pow r (0 * 10 + (b.toNat - 48))
    rw [e, List.length_cons] at h
    have hp : 10 ^ 7 ≤ 10 ^ r.length := Nat.pow_le_pow_right (by decide) (by omega)
    have : 1 * 10 ^ r.length ≤ (0 * 10 + (b.toNat - 48)) * 10 ^ r.length := Nat.mul_le_mul_right _ (by omega)
    omega
theorem trimL (l : List UInt8) (c : UInt8) (hc : c.toNat < 128) (hl : l.length ≤ 2000000) : strings_TrimLeft.f (B l) (⟨#[c]⟩ : ByteArray) = some (B (l.dropWhile (· == c))) := by
  unfold strings_TrimLeft.f
  simp only [B_data, B_size]
  rw [if_pos ⟨hc, by omega⟩]; rfl
theorem right_some (n : Int) : impl_right.f n = some (if -9000000000000 ≤ n ∧ n ≤ 9000000000000 then (n, true) else (0, false)) := by
  unfold impl_right.f impl_DecOk.f impl_in.f
  by_cases h : n ≥ -9000000000000
  · rw [if_pos h]
    by_cases h2 : n ≤ 9000000000000
    · simp [h2]; omega
    · simp [h2]
  · rw [if_neg h]; simp; omega
theorem mill (ws rs : List UInt8) (hw : ∀ b ∈ ws, isD b = true) (hr : ∀ b ∈ rs, isD b = true) (lw : ws.length ≤ 1048576) (lr : rs.length ≤ 1048576) :
    impl_millionths.f (B ws) (B rs) = some (if (val 0 ws : Int) * 1000000 + fr 0 100000 rs ≤ 9000000000000 then ((val 0 ws : Int) * 1000000 + fr 0 100000 rs, true) else (0, false)) := by
  have hf := fr_bd rs 100000 hr (by omega)
  unfold impl_millionths.f
  rw [trimL ws 48 (by decide) (by omega), Option.bind_some, show (⟨#[48, 48, 48, 48, 48, 48]⟩ : ByteArray) = B [48, 48, 48, 48, 48, 48] from rfl, show (⟨#[48]⟩ : ByteArray) = B [48] from rfl]
  simp only [B_append, B_size]
  rw [if_pos (by simp; omega), if_pos (by simp; omega)]
  by_cases h7 : 7 < (ws.dropWhile (· == 48)).length
  · rw [if_pos (by omega)]
    have := val_big ws hw h7
    rw [if_neg (by omega)]
  · rw [if_neg (by omega), if_pos (by simp; omega), B_extract]
    have e6 : (List.drop 0 (rs ++ [48, 48, 48, 48, 48, 48])).take (6 - 0) = (rs ++ List.replicate 6 48).take 6 := rfl
    rw [e6]
    simp only [B_append, B_size]
    have hl6 : ((rs ++ List.replicate 6 48).take 6).length ≤ 6 := by rw [List.length_take]; omega
    rw [if_pos (by simp at hl6 ⊢; omega)]
    obtain ⟨m, hm, he⟩ := pad 6 (val 0 ws) rs 6 (by omega) hr
    have hat : Lib.atoi ([48] ++ ws.dropWhile (· == 48) ++ (rs ++ List.replicate 6 48).take 6) = some (m : Int) := by
      have hdw : ∀ b ∈ ws.dropWhile (· == 48), isD b = true := fun b hb => hw b ((List.dropWhile_sublist _).subset hb)
      have h1 : Lib.decNat ([48] ++ ws.dropWhile (· == 48) ++ (rs ++ List.replicate 6 48).take 6) = some m := by
        unfold Lib.decNat
        rw [if_neg (by simp), List.append_assoc, dec_val [48] 0 (by decide), dec_val _ _ hdw]
        rw [show val 0 [(48 : UInt8)] = 0 from rfl, val_trim]
        exact hm
      rw [List.append_assoc, List.singleton_append] at h1 ⊢
      rw [atoi48, h1]; rfl
    have hA : strconv_Atoi.f (B ([48] ++ ws.dropWhile (· == 48) ++ (rs ++ List.replicate 6 48).take 6)) = some ((m : Int), none) := by
      unfold strconv_Atoi.f
      rw [B_size, if_pos (by simp at hl6 ⊢; omega), B_data, hat]
    rw [hA, Option.bind_some]
    simp only []
    have he2 : (m : Int) = (val 0 ws : Int) * 1000000 + fr 0 100000 rs := by rw [he]; rfl
    rw [right_some, Option.bind_some, he2]
    by_cases hn : (val 0 ws : Int) * 1000000 + fr 0 100000 rs ≤ 9000000000000
    · rw [if_pos ⟨by omega, hn⟩, if_pos hn]
    · rw [if_neg (fun x => hn x.2), if_neg hn]
theorem impl_j4 (e : Nat) (neg : Bool) (ws rs : List UInt8) (hw : ∀ b ∈ ws, isD b = true) (hr : ∀ b ∈ rs, isD b = true) (lw : ws.length ≤ 1048576) (lr : rs.length ≤ 1048576) :
    impl_DecFront.j3v (e : Int) neg (B ws) (B rs) = some (if ws = [] ∧ rs = [] then (0, 0) else if (val 0 ws : Int) * 1000000 + fr 0 100000 rs ≤ 9000000000000 then (if neg then -((val 0 ws : Int) * 1000000 + fr 0 100000 rs) else (val 0 ws : Int) * 1000000 + fr 0 100000 rs, (e : Int)) else (0, 0)) := by
  have hf := fr_bd rs 100000 hr (by omega)
  rw [impl_DecFront.j3v_eq, B_toList, B_toList]
  have main : ¬ (ws = [] ∧ rs = []) → impl_DecFront.j4v (e : Int) neg (B ws) (B rs) false = some (if (val 0 ws : Int) * 1000000 + fr 0 100000 rs ≤ 9000000000000 then (if neg then -((val 0 ws : Int) * 1000000 + fr 0 100000 rs) else (val 0 ws : Int) * 1000000 + fr 0 100000 rs, (e : Int)) else (0, 0)) := by
    intro _
    rw [impl_DecFront.j4v_eq, if_neg (by simp), mill ws rs hw hr lw lr, Option.bind_some]
    by_cases hn : (val 0 ws : Int) * 1000000 + fr 0 100000 rs ≤ 9000000000000
    · simp only [if_pos hn, if_true]
      cases neg
      · simp
      · rw [if_pos rfl, wrap_in (by omega) (by omega)]; simp
    · simp only [if_neg hn]; simp
  by_cases h1 : ws = []
  · rw [if_pos h1]
    by_cases h2 : rs = []
    · rw [if_pos ⟨h1, h2⟩, impl_DecFront.j4v_eq]; simp [h2]
    · rw [if_neg (fun x => h2 x.2), show (⟨#[]⟩ : ByteArray).toList = [] by rw [Lib.toList_data], show (rs == ([] : List UInt8)) = false by simpa using h2]
      exact main (fun x => h2 x.2)
  · rw [if_neg h1, if_neg (fun x => h1 x.1)]
    exact main (fun x => h1 x.1)
theorem impl_tail (l : List UInt8) (hl : l.length ≤ 1048576) (q : Nat) (hq : q ≤ l.length) (neg : Bool) : impl_DecFront.j1v (B l) (q : Int) neg = some (tailOf l q neg) := by
  have hr := run_le l q hq
  have hall := run_all l q
  rw [impl_DecFront.j1v_eq, digs l hl q hq, Option.bind_some, wrap_in (by omega) (by omega), if_pos (by omega), if_pos (by rw [B_size]; omega), if_pos (by omega), if_pos (by omega), B_extract]
  have ew : (l.drop (q : Int).toNat).take (((q : Int) + ((run l q).length : Int)).toNat - (q : Int).toNat) = run l q := by
    rw [show (q : Int).toNat = q by omega, show ((q : Int) + ((run l q).length : Int)).toNat - q = (run l q).length by omega]
    exact run_take l q
  rw [ew]
  unfold tailOf
  simp only []
  generalize hw : run l q = ws at *
  rw [show (q : Int) + (ws.length : Int) = ((q + ws.length : Nat) : Int) by omega]
  generalize he : q + ws.length = e at *
  have hnone : restOf l e = [] → impl_DecFront.j3v (e : Int) neg (B ws) (⟨#[]⟩ : ByteArray) = some (if ws = [] ∧ restOf l e = [] then (0, 0) else if (val 0 ws : Int) * 1000000 + fr 0 100000 (restOf l e) ≤ 9000000000000 then (if neg then -((val 0 ws : Int) * 1000000 + fr 0 100000 (restOf l e)) else (val 0 ws : Int) * 1000000 + fr 0 100000 (restOf l e), ((if restOf l e = [] then e else e + 1 + (restOf l e).length : Nat) : Int)) else (0, 0)) := by
    intro h0
    rw [show (⟨#[]⟩ : ByteArray) = B [] from rfl, impl_j4 e neg ws [] hall (by simp) (by omega) (by simp), h0, if_pos rfl]
  by_cases h1 : e < l.length
  · rw [if_pos (by rw [B_size]; omega), B_bt l e h1]
    have hdot := byte_is l[e] 46 46 rfl
    by_cases hd : l[e] = 46
    · have hrest : restOf l e = run l (e + 1) := by unfold restOf; rw [List.getElem?_eq_getElem h1, hd, if_pos rfl]
      rw [show (((l[e].toNat : Nat) : Int) == 46) = true by simpa using hdot.2 hd, impl_DecFront.j2v_eq, if_pos rfl, wrap_in (n := (e : Int) + 1) (by omega) (by omega), show (e : Int) + 1 = ((e + 1 : Nat) : Int) by omega, digs l hl (e + 1) (by omega), Option.bind_some]
      have hr2 := run_le l (e + 1) (by omega)
      by_cases hz : run l (e + 1) = []
      · rw [hz, if_neg (by simp)]
        exact hnone (by rw [hrest, hz])
      · have hlen : 0 < (run l (e + 1)).length := List.length_pos_iff.2 hz
        rw [if_pos (by omega), wrap_in (n := ((e + 1 : Nat) : Int) + ((run l (e + 1)).length : Int)) (by omega) (by omega), if_pos (by omega), if_pos (by rw [B_size]; omega), if_pos (by omega), if_pos (by omega), B_extract]
        have er : (l.drop ((e + 1 : Nat) : Int).toNat).take ((((e + 1 : Nat) : Int) + ((run l (e + 1)).length : Int)).toNat - ((e + 1 : Nat) : Int).toNat) = run l (e + 1) := by
          rw [show ((e + 1 : Nat) : Int).toNat = e + 1 by omega, show (((e + 1 : Nat) : Int) + ((run l (e + 1)).length : Int)).toNat - (e + 1) = (run l (e + 1)).length by omega]
          exact run_take l (e + 1)
        rw [er, wrap_in (n := 1 + ((run l (e + 1)).length : Int)) (by omega) (by omega), wrap_in (by omega) (by omega), show (e : Int) + (1 + ((run l (e + 1)).length : Int)) = ((e + 1 + (run l (e + 1)).length : Nat) : Int) by omega]
        rw [impl_j4 _ neg ws _ hall (run_all _ _) (by omega) (by omega), hrest, if_neg hz]
    · rw [show (((l[e].toNat : Nat) : Int) == 46) = false by simpa using fun x => hd (hdot.1 x), impl_DecFront.j2v_eq, if_neg (by simp)]
      exact hnone (by unfold restOf; rw [List.getElem?_eq_getElem h1, if_neg (by simpa using hd)])
  · rw [if_neg (by rw [B_size]; omega), impl_DecFront.j2v_eq, if_neg (by simp)]
    refine hnone ?_
    unfold restOf
    rw [List.getElem?_eq_none (by omega), if_neg (by simp)]

/-! ### blanks and sign -/
def blanks (l : List UInt8) : Nat := (l.takeWhile (· == 32)).length
def frontOf (l : List UInt8) : Int × Int := tailOf l (if l[blanks l]? = some 45 ∨ l[blanks l]? = some 43 then blanks l + 1 else blanks l) (l[blanks l]? == some 45)
theorem blanks_le (l : List UInt8) : blanks l ≤ l.length := (List.takeWhile_sublist _).length_le
theorem blanks_drop (l : List UInt8) : (l.dropWhile (· == 32)).length = l.length - blanks l := by
  have := congrArg List.length (List.takeWhile_append_dropWhile (p := (· == (32 : UInt8))) (l := l))
  rw [List.length_append] at this
  unfold blanks; omega
theorem spec_blank (l : List UInt8) (hl : l.length ≤ 1048576) (d : Nat) : ∀ i : Nat, l.length - i ≤ d → i ≤ l.length → spec_DecFront.l0v (B l) (i : Int) = spec_DecFront.j1v (B l) ((i + ((l.drop i).takeWhile (· == 32)).length : Nat) : Int) := by
  induction d with
  | zero =>
    intro i h1 h2
    rw [spec_DecFront.l0v_eq, if_neg (by rw [B_size]; omega), List.drop_eq_nil_of_le (by omega)]
    simp
  | succ d ih =>
    intro i h1 h2
    rw [spec_DecFront.l0v_eq]
    by_cases h : i < l.length
    · rw [if_pos (by rw [B_size]; omega), if_pos (by omega), B_bt l i h, List.drop_eq_getElem_cons h, List.takeWhile_cons]
      have hb := byte_is l[i] 32 32 rfl
      by_cases hd : l[i] = 32
      · rw [if_pos (hb.2 hd), wrap_in (by omega) (by omega), show (i : Int) + 1 = ((i + 1 : Nat) : Int) by omega, ih (i + 1) (by omega) (by omega), if_pos (by simpa using hd)]
        simp [Nat.add_assoc, Nat.add_comm]
      · rw [if_neg (fun x => hd (hb.1 x)), if_neg (by simpa using hd)]; simp
    · rw [if_neg (by rw [B_size]; omega), List.drop_eq_nil_of_le (by omega)]
      simp
theorem front_spec (l : List UInt8) (hl : l.length ≤ 1048576) : spec_DecFront.fv (B l) = some (frontOf l) := by
  rw [spec_DecFront.fv_eq]
  have h0 := spec_blank l hl _ 0 (Nat.le_refl _) (by omega)
  rw [List.drop_zero, Nat.zero_add] at h0
  have h0' : spec_DecFront.l0v (B l) 0 = spec_DecFront.j1v (B l) ((blanks l : Nat) : Int) := h0
  rw [h0', spec_DecFront.j1v_eq]
  have hp := blanks_le l
  unfold frontOf
  generalize blanks l = p at *
  by_cases h : p < l.length
  · rw [if_pos (by rw [B_size]; omega), if_pos (by omega), B_bt l p h, List.getElem?_eq_getElem h, spec_DecFront.j2v_eq, if_pos (by rw [B_size]; omega), if_pos (by omega), B_bt l p h]
    have h45 := byte_is l[p] 45 45 rfl
    have h43 := byte_is l[p] 43 43 rfl
    have e1 : wrap64 ((p : Int) + 1) = ((p + 1 : Nat) : Int) := by rw [wrap_in (by omega) (by omega)]; omega
    by_cases h1 : l[p] = 45
    · rw [if_pos (h45.2 h1), spec_DecFront.j3v_eq, if_pos rfl, e1, spec_tail l hl _ (by omega), if_pos (.inl (by rw [h1]))]
      simp [h1]
    · rw [if_neg (fun x => h1 (h45.1 x))]
      by_cases h2 : l[p] = 43
      · rw [show (((l[p].toNat : Nat) : Int) == 43) = true by simpa using h43.2 h2, spec_DecFront.j3v_eq, if_pos rfl, e1, spec_tail l hl _ (by omega), if_pos (.inr (by rw [h2]))]
        simp [h2]
      · rw [show (((l[p].toNat : Nat) : Int) == 43) = false by simpa using fun x => h2 (h43.1 x), spec_DecFront.j3v_eq, if_neg (by simp), spec_tail l hl _ hp, if_neg (by simp [h1, h2]), show (some l[p] == some (45 : UInt8)) = false by simpa using h1, show (((l[p].toNat : Nat) : Int) == 45) = false by simpa using fun x => h1 (h45.1 x)]
  · rw [if_neg (by rw [B_size]; omega), spec_DecFront.j2v_eq, if_neg (by rw [B_size]; omega), spec_DecFront.j3v_eq, if_neg (by simp), spec_tail l hl _ hp, List.getElem?_eq_none (by omega)]
    simp
theorem front_impl (l : List UInt8) (hl : l.length ≤ 1048576) : impl_DecFront.fv (B l) = some (frontOf l) := by
  rw [impl_DecFront.fv_eq, trimL l 32 (by decide) (by omega), Option.bind_some, B_size, B_size, blanks_drop]
  have hp := blanks_le l
  unfold frontOf
  generalize blanks l = p at *
  rw [wrap_in (by omega) (by omega), show ((l.length : Int) - ((l.length - p : Nat) : Int)) = (p : Int) by omega]
  by_cases h : p < l.length
  · rw [if_pos (by omega), if_pos (by omega), B_bt l p h, List.getElem?_eq_getElem h]
    have h45 := byte_is l[p] 45 45 rfl
    have h43 := byte_is l[p] 43 43 rfl
    have e1 : wrap64 ((p : Int) + 1) = ((p + 1 : Nat) : Int) := by rw [wrap_in (by omega) (by omega)]; omega
    by_cases h2 : l[p] = 43
    · rw [if_pos (h43.2 h2), impl_DecFront.j0v_eq, if_pos rfl, if_pos (by omega), if_pos (by rw [B_size]; omega), e1, B_bt l p h, impl_tail l hl _ (by omega), if_pos (.inr (by rw [h2]))]
      simp [h2]
    · rw [if_neg (fun x => h2 (h43.1 x))]
      by_cases h1 : l[p] = 45
      · rw [show (((l[p].toNat : Nat) : Int) == 45) = true by simpa using h45.2 h1, impl_DecFront.j0v_eq, if_pos rfl, if_pos (by omega), if_pos (by rw [B_size]; omega), e1, B_bt l p h, impl_tail l hl _ (by omega), if_pos (.inl (by rw [h1]))]
        simp [h1]
      · rw [show (((l[p].toNat : Nat) : Int) == 45) = false by simpa using fun x => h1 (h45.1 x), impl_DecFront.j0v_eq, if_neg (by simp), impl_tail l hl _ hp, if_neg (by simp [h1, h2]), show (some l[p] == some (45 : UInt8)) = false by simpa using h1]
  · rw [if_neg (by omega), impl_DecFront.j0v_eq, if_neg (by simp), impl_tail l hl _ hp, List.getElem?_eq_none (by omega)]
    simp

/-! ### nothing but blanks behind it -/
theorem tail_bd (l : List UInt8) (q : Nat) (hq : q ≤ l.length) (neg : Bool) : 0 ≤ (tailOf l q neg).2 ∧ (tailOf l q neg).2 ≤ (l.length : Int) := by
  have hr := run_le l q hq
  unfold tailOf
  simp only []
  generalize hw : run l q = ws at *
  generalize he : q + ws.length = e at *
  by_cases h1 : ws = [] ∧ restOf l e = []
  · rw [if_pos h1]; exact ⟨Int.le_refl _, by omega⟩
  · rw [if_neg h1]
    split
    · simp only []
      by_cases h2 : restOf l e = []
      · rw [if_pos h2]; omega
      · rw [if_neg h2]
        have h3 : restOf l e = run l (e + 1) ∧ e < l.length := by
          unfold restOf at h2 ⊢
          by_cases h4 : l[e]? = some 46
          · rw [if_pos h4]
            refine ⟨rfl, ?_⟩
            by_cases h5 : e < l.length
            · exact h5
            · rw [List.getElem?_eq_none (by omega)] at h4; simp at h4
          · rw [if_neg h4] at h2; exact absurd rfl h2
        have := run_le l (e + 1) (by omega)
        rw [h3.1]; omega
    · exact ⟨Int.le_refl _, by simp only []; omega⟩
theorem front_bd (l : List UInt8) : 0 ≤ (frontOf l).2 ∧ (frontOf l).2 ≤ (l.length : Int) := by
  unfold frontOf
  refine tail_bd l _ ?_ _
  have hb := blanks_le l
  split
  · rename_i h
    by_cases h5 : blanks l < l.length
    · omega
    · rw [List.getElem?_eq_none (by omega)] at h; simp at h
  · exact hb
theorem dw_nil (p : UInt8 → Bool) (l : List UInt8) : l.dropWhile p = [] ↔ ∀ b ∈ l, p b = true := by
  induction l with
  | nil => simp
  | cons a r ih =>
    rw [List.dropWhile_cons]
    by_cases h : p a = true
    · rw [if_pos h, ih]; simp [h]
    · rw [if_neg h]; simp [h]
theorem trim_nil (l : List UInt8) (c : UInt8) : Lib.trimB l c = [] ↔ ∀ b ∈ l, b = c := by
  unfold Lib.trimB Lib.trimLeftB Lib.trimRightB
  rw [dw_nil]
  constructor
  · intro h
    have h1 : l.reverse.dropWhile (· == c) = [] := by
      apply Classical.byContradiction
      intro hne
      have h2 := List.head_dropWhile_not (p := (· == c)) (l := l.reverse) hne
      have h3 := h _ (List.mem_reverse.2 (List.head_mem hne))
      rw [h3] at h2; simp at h2
    intro b hb
    have := (dw_nil _ _).1 h1 b (List.mem_reverse.2 hb)
    simpa using this
  · intro h b hb
    rw [List.mem_reverse] at hb
    have := h b (List.mem_reverse.1 ((List.dropWhile_sublist _).subset hb))
    simp [this]
theorem looks_loop (l : List UInt8) (hl : l.length ≤ 1048576) (v : Int) (d : Nat) : ∀ i : Nat, l.length - i ≤ d → i ≤ l.length → spec_DecLooks.l0v (B l) v (i : Int) = some (if (l.drop i).all (· == 32) then (v, true) else (0, false)) := by
  induction d with
  | zero =>
    intro i h1 h2
    rw [spec_DecLooks.l0v_eq, if_neg (by rw [B_size]; omega), List.drop_eq_nil_of_le (by omega)]
    simp
  | succ d ih =>
    intro i h1 h2
    rw [spec_DecLooks.l0v_eq]
    by_cases h : i < l.length
    · rw [if_pos (by rw [B_size]; omega), if_pos (by omega), B_bt l i h, List.drop_eq_getElem_cons h, List.all_cons]
      have hb := byte_is l[i] 32 32 rfl
      by_cases hd : l[i] = 32
      · rw [if_pos (hb.2 hd), wrap_in (by omega) (by omega), show (i : Int) + 1 = ((i + 1 : Nat) : Int) by omega, ih (i + 1) (by omega) (by omega)]
        simp [hd]
      · rw [if_neg (fun x => hd (hb.1 x))]
        simp [hd]
    · rw [if_neg (by rw [B_size]; omega), List.drop_eq_nil_of_le (by omega)]
      simp
def looksOf (l : List UInt8) : Int × Bool := if (frontOf l).2 = 0 then (0, false) else if (l.drop (frontOf l).2.toNat).all (· == 32) then ((frontOf l).1, true) else (0, false)
theorem looks_spec (l : List UInt8) (hl : l.length ≤ 1048576) : spec_DecLooks.fv (B l) = some (looksOf l) := by
  have hb := front_bd l
  rw [spec_DecLooks.fv_eq, front_spec l hl, Option.bind_some]
  unfold looksOf
  by_cases h : (frontOf l).2 = 0
  · rw [if_pos h, if_pos h]
  · rw [if_neg h, if_neg h]
    obtain ⟨i, hi⟩ : ∃ i : Nat, (frontOf l).2 = i := ⟨(frontOf l).2.toNat, by omega⟩
    rw [hi, looks_loop l hl _ _ i (Nat.le_refl _) (by omega), Int.toNat_natCast]
theorem looks_impl (l : List UInt8) (hl : l.length ≤ 1048576) : impl_DecLooks.fv (B l) = some (looksOf l) := by
  have hb := front_bd l
  rw [impl_DecLooks.fv_eq, front_impl l hl, Option.bind_some]
  unfold looksOf
  by_cases h : (frontOf l).2 = 0
  · rw [if_pos h, if_pos h]
  · rw [if_neg h, if_neg h, if_pos hb.1, B_size, if_pos hb.2, B_extract, List.take_of_length_le (by simp)]
    have ht : ∀ x : List UInt8, x.length ≤ 1048576 → strings_Trim.f (B x) (⟨#[32]⟩ : ByteArray) = some (B (Lib.trimB x 32)) := by
      intro x hx
      unfold strings_Trim.f
      simp only [B_data, B_size]
      rw [if_pos ⟨by decide, by omega⟩]; rfl
    rw [ht _ (by simp; omega), Option.bind_some, B_toList]
    by_cases h2 : ∀ b ∈ l.drop (frontOf l).2.toNat, b = 32
    · rw [if_pos ((trim_nil _ _).2 h2), if_pos (by simpa using h2)]
    · rw [if_neg (fun x => h2 ((trim_nil _ _).1 x)), if_neg (by simpa using h2)]

theorem vok_dec_spec (a : Int) : spec_DecOk.f a = some (decide (-9000000000000 ≤ a ∧ a ≤ 9000000000000)) := by
  unfold spec_DecOk.f spec_l1In.f
  by_cases h : a ≥ -9000000000000
  · rw [if_pos h]; simp [h]
  · rw [if_neg h]; simp; omega
theorem vok_dec_impl (a : Int) : impl_DecOk.f a = some (decide (-9000000000000 ≤ a ∧ a ≤ 9000000000000)) := by
  unfold impl_DecOk.f impl_in.f
  by_cases h : a ≥ -9000000000000
  · rw [if_pos h]; simp [h]
  · rw [if_neg h]; simp; omega
def valOkOf (a b : Int) (l : List UInt8) : Bool :=
  decide (-9000000000000 ≤ b ∧ b ≤ 9000000000000) && decide (l.length ≤ 300) &&
  (if a = 0 then decide (b = 0) && decide (l = []) else if a = 1 then decide (l = []) else if a = 2 then decide (b = 0) else if a = 3 then (looksOf l).2 && decide ((looksOf l).1 = b) else false)
theorem valok_impl (a b : Int) (l : List UInt8) (hl : l.length ≤ 1048576) : impl_ValOk.fv a b (B l) = some (valOkOf a b l) := by
  rw [impl_ValOk.fv_eq, vok_dec_impl, Option.bind_some, B_size]
  unfold valOkOf
  by_cases hd : -9000000000000 ≤ b ∧ b ≤ 9000000000000
  · rw [if_pos (by simpa using hd)]
    by_cases h3 : l.length ≤ 300
    · rw [show decide ((l.length : Int) > 300) = false by simp; omega, impl_ValOk.j0v_eq, if_neg (by simp), B_toList]
      rw [decide_eq_true hd, decide_eq_true h3]
      by_cases h0 : a = 0
      · rw [if_pos h0, if_pos h0]
        by_cases hb : b = 0 <;> simp [hb]
        cases l <;> rfl
      · rw [if_neg h0, if_neg h0]
        by_cases h1 : a = 1
        · rw [if_pos h1, if_pos h1, show (⟨#[]⟩ : ByteArray).toList = [] by rw [Lib.toList_data]]; cases l <;> rfl
        · rw [if_neg h1, if_neg h1]
          by_cases h2 : a = 2
          · rw [if_pos h2, if_pos h2]
            by_cases hb : b = 0 <;> simp [hb]
          · rw [if_neg h2, if_neg h2]
            by_cases h4 : a = 3
            · rw [if_pos h4, if_pos h4, looks_impl l hl, Option.bind_some]
              cases (looksOf l).2 <;> first | (simp; done) | (simp; rw [Bool.eq_iff_iff]; simp)
            · rw [if_neg h4, if_neg h4]; rfl
    · rw [show decide ((l.length : Int) > 300) = true by simp; omega, impl_ValOk.j0v_eq, if_pos rfl]
      simp [h3]
  · rw [if_neg (by simpa using hd), impl_ValOk.j0v_eq, if_pos rfl, decide_eq_false hd]; rfl
theorem valok_spec (a b : Int) (l : List UInt8) (hl : l.length ≤ 1048576) : spec_ValOk.fv a b (B l) = some (valOkOf a b l) := by
  have hin : spec_l1In.f a 0 3 = some (decide (0 ≤ a ∧ a ≤ 3)) := by
    unfold spec_l1In.f
    by_cases h : a ≥ 0
    · rw [if_pos h]; simp [h]
    · rw [if_neg h]; simp; omega
  rw [spec_ValOk.fv_eq, hin, Option.bind_some, vok_dec_spec, Option.bind_some, B_size]
  unfold valOkOf
  by_cases ha : 0 ≤ a ∧ a ≤ 3
  · rw [if_pos (by simpa using ha)]
    by_cases hd : -9000000000000 ≤ b ∧ b ≤ 9000000000000
    · rw [if_pos (by simpa using hd)]
      by_cases h3 : l.length ≤ 300
      · rw [show decide ((l.length : Int) > 300) = false by simp; omega, spec_ValOk.j0v_eq, if_neg (by simp), B_toList]
        rw [decide_eq_true hd, decide_eq_true h3]
        by_cases h0 : a = 0
        · rw [if_pos h0, if_pos h0]
          by_cases hb : b = 0 <;> simp [hb]
          cases l <;> rfl
        · rw [if_neg h0, if_neg h0]
          by_cases h1 : a = 1
          · rw [if_pos h1, if_pos h1, show (⟨#[]⟩ : ByteArray).toList = [] by rw [Lib.toList_data]]; cases l <;> rfl
          · rw [if_neg h1, if_neg h1]
            by_cases h2 : a = 2
            · rw [if_pos h2, if_pos h2]
              by_cases hb : b = 0 <;> simp [hb]
            · rw [if_neg h2, if_neg h2, if_pos (show a = 3 by omega), looks_spec l hl, Option.bind_some]
              cases (looksOf l).2 <;> first | (simp; done) | (simp; rw [Bool.eq_iff_iff]; simp)
      · rw [show decide ((l.length : Int) > 300) = true by simp; omega, spec_ValOk.j0v_eq, if_pos rfl]
        simp [h3]
    · rw [if_neg (by simpa using hd), spec_ValOk.j0v_eq, if_pos rfl, decide_eq_false hd]; rfl
  · rw [if_neg (by simpa using ha), spec_ValOk.j0v_eq, if_pos rfl, if_neg (by omega), if_neg (by omega), if_neg (by omega), if_neg (by omega), Bool.and_false]

/-! ### which of two texts comes first -/
theorem less_cons (a b : UInt8) (x y : List UInt8) : Op.bytesLess (a :: x) (b :: y) = (decide (a < b) || (a == b && Op.bytesLess x y)) := rfl
theorem cmp_bytes : ∀ x y : List UInt8, Lib.compareBytes x y = if Op.bytesLess x y = true then -1 else if Op.bytesLess y x = true then 1 else 0
  | [], [] => rfl
  | [], _ :: _ => rfl
  | _ :: _, [] => rfl
  | a :: x, b :: y => by
    rw [Lib.compareBytes, less_cons, less_cons, cmp_bytes x y]
    by_cases h1 : a < b
    · rw [if_pos h1]; simp [h1]
    · by_cases h2 : b < a
      · rw [if_neg h1, if_pos h2]
        have hne : ¬ a = b := by intro e; subst e; exact h1 h2
        simp [h1, h2, hne]
      · have e : a = b := by
          rw [← UInt8.toNat_inj]
          have := _root_.mt UInt8.lt_iff_toNat_lt.2 h1
          have := _root_.mt UInt8.lt_iff_toNat_lt.2 h2
          omega
        subst e
        rw [if_neg h1, if_neg h1]
        simp [h1]
theorem less_more (x y : List UInt8) : (!(Op.bytesLess x y) && !(x == y)) = Op.bytesLess y x := by
  induction x generalizing y with
  | nil => cases y <;> rfl
  | cons a x ih =>
    cases y with
    | nil => rfl
    | cons b y =>
      rw [less_cons, less_cons, ← ih y]
      by_cases h1 : a < b
      · have h2 : ¬ b < a := fun h => by rw [UInt8.lt_iff_toNat_lt] at h h1; omega
        have hne : ¬ b = a := by intro e; subst e; exact h2 h1
        simp [h1, h2, hne]
      · by_cases h2 : b < a
        · have hne : ¬ a = b := by intro e; subst e; exact h1 h2
          have hne2 : ¬ b = a := fun e => hne e.symm
          simp [h1, h2, hne, hne2]
        · have e : a = b := by
            rw [← UInt8.toNat_inj]
            have := _root_.mt UInt8.lt_iff_toNat_lt.2 h1
            have := _root_.mt UInt8.lt_iff_toNat_lt.2 h2
            omega
          subst e
          simp [h1]

/-! ### a state that is right -/
def vok (v : S77) : Bool := valOkOf v.f0 v.f1 v.f2.data.toList
theorem vok_spec (v : S77) (h : v.f2.size ≤ 1048576) : spec_ValOk.fv v.f0 v.f1 v.f2 = some (vok v) := by
  have := valok_spec v.f0 v.f1 v.f2.data.toList (by rw [← B_size, B_self]; exact h)
  rwa [B_self] at this
theorem vok_impl (v : S77) (h : v.f2.size ≤ 1048576) : impl_ValOk.fv v.f0 v.f1 v.f2 = some (vok v) := by
  have := valok_impl v.f0 v.f1 v.f2.data.toList (by rw [← B_size, B_self]; exact h)
  rwa [B_self] at this
theorem so_in_spec (a b c : Int) : spec_l1In.f a b c = some (decide (b ≤ a ∧ a ≤ c)) := by
  unfold spec_l1In.f
  by_cases h : a ≥ b
  · rw [if_pos h]; simp [h]
  · rw [if_neg h]; simp; omega
theorem so_in_impl (a b c : Int) : impl_in.f a b c = some (decide (b ≤ a ∧ a ≤ c)) := by
  unfold impl_in.f
  by_cases h : a ≥ b
  · rw [if_pos h]; simp [h]
  · rw [if_neg h]; simp; omega
def ahead (p c : S79) : Bool := if p.f0 < c.f0 then true else if p.f0 = c.f0 then Op.bytesLess p.f1.toList c.f1.toList else false
theorem ahead_spec (p c : S79) : spec_l11Less.f p.f0 p.f1 p.f2 p.f3 p.f4 c.f0 c.f1 = some (ahead p c) := by
  unfold spec_l11Less.f ahead
  split
  · rfl
  · split <;> rfl
theorem ahead_impl (p c : S79) : ∃ t, impl_cellBefore.f p.f0 p.f1 p.f2 p.f3 p.f4 c.f0 c.f1 c.f2 c.f3 c.f4 = some t ∧ (t ≥ 0 ↔ ahead p c = false) := by
  unfold impl_cellBefore.f ahead
  by_cases h : p.f0 < c.f0
  · rw [if_pos h, if_pos h]; exact ⟨_, rfl, by simp⟩
  · rw [if_neg h, if_neg h]
    by_cases h2 : p.f0 > c.f0
    · rw [if_pos h2, if_neg (by omega)]; exact ⟨_, rfl, by simp⟩
    · rw [if_neg h2, if_pos (by omega)]
      unfold strings_Compare.f
      rw [Option.bind_some, ← Lib.toList_data, ← Lib.toList_data, cmp_bytes]
      refine ⟨_, rfl, ?_⟩
      cases h3 : Op.bytesLess p.f1.toList c.f1.toList
      · rw [if_neg (by simp)]
        split <;> simp
      · rw [if_pos rfl]; simp
theorem regs_both (n m : Int) (l : List S77) (y : List S79) (p q : Int) (hl : l.length ≤ 1048576) (hs : ∀ v ∈ l, v.f2.size ≤ 1048576) (d : Nat) : ∀ i : Nat, l.length - i = d → i ≤ l.length →
    ∃ (c : Bool) (t : Int), spec_StateOk.l0v n m i l y p q = (if c = true then spec_StateOk.l1v n m 0 l y p q else some false) ∧ slices_IndexFunc_impl_Val_impl_Val__impl_StateOk_1.l0v l l.length i = some t ∧ (t ≥ 0 ↔ c = false) := by
  induction d with
  | zero =>
    intro i h1 h2
    refine ⟨true, -1, ?_, ?_, by simp⟩
    · rw [spec_StateOk.l0v_eq, if_neg (by omega), if_pos rfl]
    · rw [slices_IndexFunc_impl_Val_impl_Val__impl_StateOk_1.l0v_eq, if_neg (by omega)]
  | succ d ih =>
    intro i h1 h2
    have hi : i < l.length := by omega
    have hw : wrap64 ((i : Int) + 1) = ((i + 1 : Nat) : Int) := by rw [wrap_in (by omega) (by omega)]; omega
    have hv := hs l[i] (List.getElem_mem hi)
    rw [spec_StateOk.l0v_eq, slices_IndexFunc_impl_Val_impl_Val__impl_StateOk_1.l0v_eq, if_pos (by omega), if_pos (by omega), if_pos (by omega), if_pos (by omega), if_pos (by omega), rdin77 l i hi, vok_spec _ hv, impl_StateOk_1.fv_eq, vok_impl _ hv]
    simp only [Option.bind_some]
    cases h : vok l[i]
    · exact ⟨false, (i : Int), by simp, by simp, by simp⟩
    · rw [if_pos rfl, if_neg (by simp), hw]
      exact ih (i + 1) (by omega) (by omega)
def ends (n : Int) (l : List S77) (y : List S79) (p q : Int) : Bool := decide ((l.length : Int) = n) && (decide ((y.length : Int) ≤ 40) && (decide (0 ≤ p ∧ p ≤ 1000000) && decide (0 ≤ q ∧ q ≤ 7)))
theorem cells_both (n m : Int) (l : List S77) (y : List S79) (p q : Int) (hl : y.length ≤ 1048576) (hs : ∀ v ∈ y, v.f4.size ≤ 1048576) (d : Nat) : ∀ i : Nat, y.length - i = d → i ≤ y.length →
    ∃ b : Bool, spec_StateOk.l1v n m i l y p q = some (b && ends n l y p q) ∧ impl_StateOk.l0v m y y.length i l y p q = some b := by
  induction d with
  | zero =>
    intro i h1 h2
    refine ⟨true, ?_, ?_⟩
    · rw [spec_StateOk.l1v_eq, if_neg (by omega), so_in_spec, so_in_spec]
      unfold ends
      by_cases a1 : (l.length : Int) = n
      · rw [if_pos a1]
        by_cases a2 : (y.length : Int) ≤ 40
        · rw [if_pos a2, Option.bind_some]
          by_cases a3 : 0 ≤ p ∧ p ≤ 1000000
          · rw [if_pos (by simpa using a3), Option.bind_some]; simp [a1, a2, a3]
          · rw [if_neg (by simpa using a3)]; simp [a3]
        · rw [if_neg a2]; simp [a2]
      · rw [if_neg a1]; simp [a1]
    · rw [impl_StateOk.l0v_eq, if_neg (by omega)]
  | succ d ih =>
    intro i h1 h2
    have hi : i < y.length := by omega
    have hw : wrap64 ((i : Int) + 1) = ((i + 1 : Nat) : Int) := by rw [wrap_in (by omega) (by omega)]; omega
    have hv := hs y[i] (List.getElem_mem hi)
    have v1 : spec_ValOk.fv y[i].f2 y[i].f3 y[i].f4 = some (vok ⟨y[i].f2, y[i].f3, y[i].f4⟩) := vok_spec ⟨y[i].f2, y[i].f3, y[i].f4⟩ hv
    have v2 : impl_ValOk.fv y[i].f2 y[i].f3 y[i].f4 = some (vok ⟨y[i].f2, y[i].f3, y[i].f4⟩) := vok_impl ⟨y[i].f2, y[i].f3, y[i].f4⟩ hv
    have hno : ∃ b : Bool, some false = some (b && ends n l y p q) ∧ some false = some b := ⟨false, rfl, rfl⟩
    have hgo := ih (i + 1) (by omega) (by omega)
    rw [spec_StateOk.l1v_eq, impl_StateOk.l0v_eq]
    simp only [eq_true (show (i : Int) < (y.length : Int) by omega), eq_true (show (0 : Int) ≤ (i : Int) by omega), if_true, rdin79 y i hi]
    by_cases c1 : y[i].f0 < 0
    · rw [if_pos c1, if_pos c1]; exact hno
    · rw [if_neg c1, if_neg c1]
      by_cases c2 : y[i].f0 ≥ m
      · rw [if_pos c2, if_pos c2]; exact hno
      · rw [if_neg c2, if_neg c2]
        by_cases c3 : (y[i].f1.size : Int) > 300
        · rw [if_pos c3, if_pos c3]; exact hno
        · rw [if_neg c3, if_neg c3, v1, v2]
          simp only [Option.bind_some]
          cases c4 : vok ⟨y[i].f2, y[i].f3, y[i].f4⟩
          · rw [if_neg (by simp), if_neg (by simp)]; exact hno
          · rw [if_pos rfl, if_pos rfl, hw]
            by_cases c5 : (i : Int) > 0
            · have hj : i - 1 < y.length := by omega
              have hw2 : wrap64 ((i : Int) - 1) = ((i - 1 : Nat) : Int) := by rw [wrap_in (by omega) (by omega)]; omega
              obtain ⟨t, e1, e2⟩ := ahead_impl y[i - 1] y[i]
              rw [if_pos c5, if_pos c5, hw2]
              simp only [eq_true (show ((i - 1 : Nat) : Int) < (y.length : Int) by omega), eq_true (show (0 : Int) ≤ ((i - 1 : Nat) : Int) by omega), if_true, rdin79 y (i - 1) hj, ahead_spec, e1, Option.bind_some]
              cases c6 : ahead y[i - 1] y[i]
              · rw [if_neg (by simp), if_pos (e2.2 c6)]; exact hno
              · rw [if_pos rfl, if_neg (fun x => by have := e2.1 x; rw [c6] at this; simp at this)]; exact hgo
            · rw [if_neg c5, if_neg c5]; exact hgo
theorem stateok_both (n m : Int) (l : List S77) (y : List S79) (p q : Int) (hl : l.length ≤ 1048576) (hs : ∀ v ∈ l, v.f2.size ≤ 1048576) (hl2 : y.length ≤ 1048576) (hs2 : ∀ v ∈ y, v.f4.size ≤ 1048576) : ∃ r, spec_StateOk.fv l y p q n m = some r ∧ impl_StateOk.fv l y p q n m = some r := by
  obtain ⟨c, t, e1, e2, e3⟩ := regs_both n m l y p q hl hs _ 0 rfl (by omega)
  obtain ⟨b, b1, b2⟩ := cells_both n m l y p q hl2 hs2 _ 0 rfl (by omega)
  have e2' : slices_ContainsFunc_impl_Val_impl_Val__impl_StateOk_1.fv l = some (decide (t ≥ 0)) := by
    rw [slices_ContainsFunc_impl_Val_impl_Val__impl_StateOk_1.fv_eq, slices_IndexFunc_impl_Val_impl_Val__impl_StateOk_1.fv_eq]
    rw [show (0 : Int) = ((0 : Nat) : Int) from rfl, e2]; rfl
  have j1 : impl_StateOk.j0v m true l y p q = some false := by rw [impl_StateOk.j0v_eq, if_pos rfl]
  have j2 : impl_StateOk.j0v m false l y p q = some b := by
    rw [impl_StateOk.j0v_eq, if_neg (by simp)]
    exact b2
  refine ⟨c && (b && ends n l y p q), ?_, ?_⟩
  · rw [spec_StateOk.fv_eq]
    refine e1.trans ?_
    cases c
    · simp
    · rw [if_pos rfl]; exact b1
  · rw [impl_StateOk.fv_eq, e2', so_in_impl, so_in_impl]
    simp only [Option.bind_some]
    unfold ends
    by_cases a1 : (l.length : Int) = n
    · rw [if_pos a1]
      cases c
      · rw [if_pos (by simpa using e3.2 rfl), j1]; rfl
      · rw [if_neg (fun x => by have := e3.1 (by simpa using x); simp at this)]
        by_cases a2 : (y.length : Int) > 40
        · rw [if_pos a2, j1]; simp; omega
        · rw [if_neg a2]
          by_cases a3 : 0 ≤ p ∧ p ≤ 1000000
          · rw [if_pos (by simpa using a3)]
            by_cases a4 : 0 ≤ q ∧ q ≤ 7
            · rw [decide_eq_true a4, show (!true) = false from rfl, j2]; simp [a1, a3]; omega
            · rw [decide_eq_false a4, show (!false) = true from rfl, j1]; simp
          · rw [if_neg (by simpa using a3), j1]; simp [a3]
    · rw [if_neg a1, j1]; simp [a1]

/-! ### rows of numbers: copies, alike, marked, held -/
theorem set_mid {α : Type} (pre rest : List α) (x v : α) : (pre ++ x :: rest).set pre.length v = pre ++ v :: rest := by
  rw [List.set_append]
  simp
theorem toIntS_run (l : List Int) (hl : l.length ≤ 1048576) : ∀ (d k : Nat), l.length - k = d → k ≤ l.length → laws_toIntS.l0v l (l.take k ++ List.replicate (l.length - k) 0) (k : Int) = some l := by
  intro d
  induction d with
  | zero =>
    intro k h1 h2
    rw [laws_toIntS.l0v_eq, if_neg (by omega), List.take_of_length_le (by omega), show l.length - k = 0 by omega]
    simp
  | succ d ih =>
    intro k h1 h2
    have hk : k < l.length := by omega
    have hlen : (l.take k ++ List.replicate (l.length - k) (0 : Int)).length = l.length := by simp; omega
    have hx : rdOf (0 : Int) l (k : Int) = l[k] := by unfold rdOf; simp [List.getD, hk]
    have hs : (l.take k ++ List.replicate (l.length - k) (0 : Int)).set k l[k] = l.take (k + 1) ++ List.replicate (l.length - (k + 1)) 0 := by
      rw [show l.length - k = (l.length - (k + 1)) + 1 by omega, List.replicate_succ]
      have := set_mid (l.take k) (List.replicate (l.length - (k + 1)) (0 : Int)) 0 l[k]
      rw [List.length_take, Nat.min_eq_left (by omega)] at this
      rw [this, List.take_add_one, List.getElem?_eq_getElem hk, Option.toList_some, List.append_assoc]
      rfl
    rw [laws_toIntS.l0v_eq, if_pos (by omega), if_pos (by omega), if_pos (by rw [hlen]; omega), wrap_in (n := (k : Int) + 1) (by omega) (by omega), show (k : Int) + 1 = ((k + 1 : Nat) : Int) by omega, hx, Int.toNat_natCast, hs]
    exact ih (k + 1) (by omega) (by omega)
theorem to_IntS (l : List Int) (hl : l.length ≤ 1048576) : laws_toIntS.fv l = some l := by
  rw [laws_toIntS.fv_eq, if_pos (by omega), if_pos (by omega), Int.toNat_natCast]
  exact toIntS_run l hl _ 0 rfl (by omega)

theorem eq_run (l : List Int) (hl : l.length ≤ 1048576) : ∀ (d k : Nat), l.length - k = d → k ≤ l.length → laws_eqIntS.l0v l l (k : Int) = some true := by
  intro d
  induction d with
  | zero =>
    intro k h1 h2
    rw [laws_eqIntS.l0v_eq, if_neg (by omega)]
  | succ d ih =>
    intro k h1 h2
    rw [laws_eqIntS.l0v_eq, if_pos (by omega), if_pos (by omega), if_pos (by omega), if_pos rfl, wrap_in (n := (k : Int) + 1) (by omega) (by omega), show (k : Int) + 1 = ((k + 1 : Nat) : Int) by omega]
    exact ih (k + 1) (by omega) (by omega)
theorem eq_IntS (l : List Int) (hl : l.length ≤ 1048576) : laws_eqIntS.fv l l = some true := by
  rw [laws_eqIntS.fv_eq, if_pos rfl]
  exact eq_run l hl _ 0 rfl (by omega)

/-! ### cells, states, machines that came in -/
def bl_Cell (x : S97) : Nat := x.f1.size + (bl_Val ⟨x.f2, x.f3, x.f4⟩ + 0)
theorem sz_Cell (x : S97) (hx : Wf97 x) (left : Int) (h0 : 0 ≤ left) (h1 : left ≤ 1048576) : laws_szCell.f x.f0 x.f1 x.f2 x.f3 x.f4 left = some (dn (bl_Cell x) left) := by
  unfold laws_szCell.f
  show _ = some (dn (x.f1.size + (bl_Val ⟨x.f2, x.f3, x.f4⟩ + 0)) left)
  refine dn_cut h0 h1 (len_le hx.2.1) fun t ht h0 h1 => ?_
  rw [ht]
  refine dn_bind h0 h1 (sz_Val ⟨x.f2, x.f3, x.f4⟩ ⟨hx.2.2.1, hx.2.2.2.1, hx.2.2.2.2⟩ _ h0 h1) fun t h0 h1 => ?_
  exact dn_end _ h0
def bls_Cell (l : List S97) : Nat := l.length + (l.map bl_Cell).sum
theorem sz_CellS (l : List S97) (hx : l.length ≤ maxLen ∧ ∀ x_ ∈ l, Wf97 x_) (left : Int) (h0 : 0 ≤ left) (h1 : left ≤ 1048576) : laws_szCellS.fv l left = some (dn (bls_Cell l) left) := by
  rw [laws_szCellS.fv_eq]
  have hl := len_le hx.1
  refine dn_cut h0 h1 hl fun t ht h0 h1 => ?_
  rw [ht]
  exact sz_all laws_szCellS.l0v (fun x0 x1 x5 => (laws_szCell.f ((rd_T97 x0 x5).f0) ((rd_T97 x0 x5).f1) ((rd_T97 x0 x5).f2) ((rd_T97 x0 x5).f3) ((rd_T97 x0 x5).f4) x1)) bl_Cell (by intro x l i; exact laws_szCellS.l0v_eq x l i) l hl (fun i h left h0 h1 => by simp only [rdin97 l i h]; exact sz_Cell l[i] (hx.2 _ (List.getElem_mem h)) left h0 h1) t h0 h1
def cv_Cell (x : S97) : S79 := ⟨x.f0, x.f1, x.f2, x.f3, x.f4⟩
theorem to_CellS (l : List S97) (hb : bls_Cell l ≤ 1048576) : laws_toCellS.fv l = some (l.map cv_Cell) := by
  have hb' := hb
  unfold bls_Cell at hb'
  rw [laws_toCellS.fv_eq, if_pos (by omega), if_pos (by omega)]
  have := to_all laws_toCellS.l0v (fun x0 x4 => (laws_toCell.f ((rd_T97 x0 x4).f0) ((rd_T97 x0 x4).f1) ((rd_T97 x0 x4).f2) ((rd_T97 x0 x4).f3) ((rd_T97 x0 x4).f4))) (fun t20 => (⟨t20.1, t20.2.1, t20.2.2.1, t20.2.2.2.1, t20.2.2.2.2⟩ : S79)) cv_Cell (by intro x acc i; exact laws_toCellS.l0v_eq x acc i) l (by omega) (fun i h => by
    simp only [rdin97 l i h]; exact ⟨_, rfl, rfl⟩) z79
  simpa using this
theorem eq_Cell (y : S79) : laws_eqCell.f y.f0 y.f1 y.f2 y.f3 y.f4 y.f0 y.f1 y.f2 y.f3 y.f4 = some true := by
  unfold laws_eqCell.f laws_eqVal.f
  simp
theorem eq_CellS (l : List S79) (h : l.length ≤ 9223372036854775807) : laws_eqCellS.fv l l = some true := by
  rw [laws_eqCellS.fv_eq, if_pos rfl]
  exact eq_all laws_eqCellS.l0v (fun x0 x1 x5 => (laws_eqCell.f ((rd_T79 x0 x5).f0) ((rd_T79 x0 x5).f1) ((rd_T79 x0 x5).f2) ((rd_T79 x0 x5).f3) ((rd_T79 x0 x5).f4) ((rd_T79 x1 x5).f0) ((rd_T79 x1 x5).f1) ((rd_T79 x1 x5).f2) ((rd_T79 x1 x5).f3) ((rd_T79 x1 x5).f4))) (by intro x y i; exact laws_eqCellS.l0v_eq x y i) l h (fun i hi => by simp only [rdin79 l i hi]; exact eq_Cell l[i])
def bl_State (a : List S94) (b : List S97) : Nat := bls_Val a + (bls_Cell b + 0)
theorem sz_State (a : List S94) (b : List S97) (p q : Int) (ha : a.length ≤ maxLen ∧ ∀ x_ ∈ a, Wf94 x_) (hb : b.length ≤ maxLen ∧ ∀ x_ ∈ b, Wf97 x_) (left : Int) (h0 : 0 ≤ left) (h1 : left ≤ 1048576) : laws_szState.fv a b p q left = some (dn (bl_State a b) left) := by
  rw [laws_szState.fv_eq]
  show _ = some (dn (bls_Val a + (bls_Cell b + 0)) left)
  refine dn_bind h0 h1 (sz_ValS a ha _ h0 h1) fun t h0 h1 => ?_
  refine dn_bind h0 h1 (sz_CellS b hb _ h0 h1) fun t h0 h1 => ?_
  exact dn_end _ h0

theorem sz_IntS (l : List Int) (hl : l.length ≤ maxLen) (left : Int) (h0 : 0 ≤ left) (h1 : left ≤ 1048576) : laws_szIntS.f l left = some (dn (l.length + 0) left) := by
  unfold laws_szIntS.f
  refine dn_cut h0 h1 (len_le hl) fun t ht h0 h1 => ?_
  rw [ht]
  exact dn_end _ h0
def bl_Mach (x : S32) : Nat := bl_State x.f0 x.f1 + ((x.f4.length + 0) + (x.f5.size + 0))
theorem sz_Mach (x : S32) (hx : Wf32 x) (left : Int) (h0 : 0 ≤ left) (h1 : left ≤ 1048576) : laws_szMach.fv x.f0 x.f1 x.f2 x.f3 x.f4 x.f5 left = some (dn (bl_Mach x) left) := by
  rw [laws_szMach.fv_eq]
  show _ = some (dn (bl_State x.f0 x.f1 + ((x.f4.length + 0) + (x.f5.size + 0))) left)
  refine dn_bind h0 h1 (sz_State x.f0 x.f1 x.f2 x.f3 hx.1 hx.2.1 _ h0 h1) fun t h0 h1 => ?_
  refine dn_bind h0 h1 (sz_IntS x.f4 hx.2.2.2.2.1.1 _ h0 h1) fun t h0 h1 => ?_
  refine dn_cut h0 h1 (len_le hx.2.2.2.2.2) fun t ht h0 h1 => ?_
  rw [ht]
  exact dn_end _ h0
theorem done_run (l : List Int) (hl : l.length ≤ 1048576) (a b : List ByteArray) (u v : List S81) (s : List S77) (c : List S79) (p q : Int) (o : ByteArray) (d : Nat) : ∀ i : Nat, l.length - i = d → i ≤ l.length →
    ∃ (g : Bool) (t : Int), spec_MachOk.l0v (i : Int) a b u v s c p q l o = (if g = true then spec_MachOk.l0v (l.length : Int) a b u v s c p q l o else some false) ∧ slices_IndexFunc_int_int__impl_MachOk_1.l0v l (l.length : Int) (i : Int) = some t ∧ (t ≥ 0 ↔ g = false) := by
  induction d with
  | zero =>
    intro i h1 h2
    have : i = l.length := by omega
    subst this
    refine ⟨true, -1, by rw [if_pos rfl], ?_, by simp⟩
    rw [slices_IndexFunc_int_int__impl_MachOk_1.l0v_eq, if_neg (by omega)]
  | succ d ih =>
    intro i h1 h2
    have hi : i < l.length := by omega
    have hx : rdOf (0 : Int) l (i : Int) = l[i] := by unfold rdOf; simp [List.getD, hi]
    have hw : wrap64 ((i : Int) + 1) = ((i + 1 : Nat) : Int) := by rw [wrap_in (by omega) (by omega)]; omega
    rw [spec_MachOk.l0v_eq, slices_IndexFunc_int_int__impl_MachOk_1.l0v_eq, if_pos (by omega), if_pos (by omega), if_pos (by omega), if_pos (by omega), if_pos (by omega), hx, so_in_spec, Option.bind_some]
    have hm : impl_MachOk_1.f l[i] = some (!decide (0 ≤ l[i] ∧ l[i] ≤ 100000)) := by
      unfold impl_MachOk_1.f
      rw [so_in_impl]; rfl
    rw [hm, Option.bind_some]
    cases hb : decide (0 ≤ l[i] ∧ l[i] ≤ 100000)
    · exact ⟨false, (i : Int), by simp, by simp, by simp⟩
    · obtain ⟨g, t, e1, e2, e3⟩ := ih (i + 1) (by omega) (by omega)
      exact ⟨g, t, by rw [if_pos rfl, hw]; exact e1, by rw [if_neg (by simp), hw]; exact e2, e3⟩
theorem mach_both (a b : List ByteArray) (u v : List S81) (s : List S77) (c : List S79) (p q : Int) (l : List Int) (o : ByteArray) (hl : l.length ≤ 1048576)
    (hP : ∃ r, spec_ProgOk.fv a b u v = some r ∧ impl_ProgOk.fv a b u v = some r) (hS : ∃ r, spec_StateOk.fv s c p q (a.length : Int) (b.length : Int) = some r ∧ impl_StateOk.fv s c p q (a.length : Int) (b.length : Int) = some r) :
    ∃ r, spec_MachOk.fv a b u v s c p q l o = some r ∧ impl_MachOk.fv a b u v s c p q l o = some r := by
  obtain ⟨x, x1, x2⟩ := hP
  obtain ⟨y, y1, y2⟩ := hS
  obtain ⟨g, t, e1, e2, e3⟩ := done_run l hl a b u v s c p q o l.length 0 (by omega) (by omega)
  have e2' : slices_ContainsFunc_int_int__impl_MachOk_1.fv l = some (decide (t ≥ 0)) := by
    rw [slices_ContainsFunc_int_int__impl_MachOk_1.fv_eq, slices_IndexFunc_int_int__impl_MachOk_1.fv_eq]
    rw [show (0 : Int) = ((0 : Nat) : Int) from rfl, e2]; rfl
  have ee : spec_MachOk.l0v (l.length : Int) a b u v s c p q l o = some (x && (y && (decide ((l.length : Int) = 3) && decide ((o.size : Int) ≤ 1500)))) := by
    rw [spec_MachOk.l0v_eq, if_neg (by omega), x1, Option.bind_some]
    cases x
    · rfl
    · rw [if_pos rfl, y1, Option.bind_some]
      cases y
      · rfl
      · rw [if_pos rfl]
        by_cases h3 : (l.length : Int) = 3
        · rw [if_pos h3, decide_eq_true h3]; rfl
        · rw [if_neg h3, decide_eq_false h3]; rfl
  rw [spec_MachOk.fv_eq, impl_MachOk.fv_eq, x2, Option.bind_some]
  have e1' : spec_MachOk.l0v 0 a b u v s c p q l o = _ := e1
  rw [e1', ee]
  cases x
  · refine ⟨false, ?_, by rw [if_neg (by simp)]⟩
    cases g <;> rfl
  · rw [if_pos rfl, y2, Option.bind_some]
    cases y
    · refine ⟨false, ?_, by rw [if_neg (by simp)]⟩
      cases g <;> rfl
    · rw [if_pos rfl]
      by_cases h3 : (l.length : Int) = 3
      · rw [if_pos h3, e2', Option.bind_some]
        cases g
        · refine ⟨false, rfl, by rw [if_pos (by simpa using e3.2 rfl)]⟩
        · refine ⟨decide ((o.size : Int) ≤ 1500), by simp [h3], by rw [if_neg (fun k => by have := e3.1 (by simpa using k); simp at this)]⟩
      · rw [if_neg h3]
        refine ⟨false, ?_, rfl⟩
        cases g <;> simp [h3]
end FnExactMachOkAid
open FnExactMachOkAid

theorem FnExactMachOk : laws_FnExactMachOk.Pure := by
  intro x y hx hy
  rw [laws_FnExactMachOk.fv_eq, sz_Prog x hx 1048576 (by omega) (by omega), Option.bind_some]
  by_cases h : dn (bl_Prog x) 1048576 < 0
  · rw [if_pos h]
  · have hn := dn_pos h (by omega)
    have hb1 : bl_Prog x ≤ 1048576 := by omega
    have hd : dn (bl_Prog x) 1048576 = 1048576 - bl_Prog x := if_pos hn
    have hb2 := hb1
    unfold bl_Prog bls_Op bls_String at hb2
    have hs : ∀ l : List ByteArray, (l.map ByteArray.size).sum ≤ 1048576 → ∀ c ∈ l, c.size ≤ 1048576 := fun l hl c hc => by
      have := le_sum (List.mem_map_of_mem (f := ByteArray.size) hc)
      omega
    rw [if_neg h, sz_Mach y hy _ (by omega) (by omega), Option.bind_some]
    by_cases h2 : dn (bl_Mach y) (dn (bl_Prog x) 1048576) < 0
    · rw [if_pos h2]
    · have hn2 := dn_pos h2 (by omega)
      have hc1 : bl_Mach y ≤ 1048576 := by omega
      have hc2 := hc1
      unfold bl_Mach bl_State at hc2
      have hc3 := hc2
      unfold bls_Val bls_Cell at hc3
      obtain ⟨r, e1, e2⟩ := mach_both x.f0 x.f1 (x.f2.map cv_Op) (x.f3.map cv_Op) (y.f0.map cv_Val) (y.f1.map cv_Cell) y.f2 y.f3 y.f4 y.f5 (by omega)
        (by
          obtain ⟨b, e1, e2⟩ := prog_both x.f0 x.f1 (x.f2.map cv_Op) (x.f3.map cv_Op) (by omega) (by omega) (hs _ (by omega)) (hs _ (by omega)) (by simp; omega) (by simp; omega)
          exact ⟨b, e1, e2⟩)
        (stateok_both _ _ (y.f0.map cv_Val) (y.f1.map cv_Cell) y.f2 y.f3 (by simp; omega) (by
          intro v hv
          obtain ⟨u, hu, rfl⟩ := List.mem_map.1 hv
          have hm := le_sum (List.mem_map_of_mem (f := bl_Val) hu)
          have hu2 : u.f2.size ≤ bl_Val u := by unfold bl_Val; omega
          show u.f2.size ≤ 1048576
          omega) (by simp; omega) (by
          intro v hv
          obtain ⟨u, hu, rfl⟩ := List.mem_map.1 hv
          have hm := le_sum (List.mem_map_of_mem (f := bl_Cell) hu)
          have hu2 : u.f4.size ≤ bl_Cell u := by unfold bl_Cell bl_Val; simp only; omega
          show u.f4.size ≤ 1048576
          omega))
      have tm : laws_toMach.fv y.f0 y.f1 y.f2 y.f3 y.f4 y.f5 = some (y.f0.map cv_Val, y.f1.map cv_Cell, y.f2, y.f3, y.f4, y.f5) := by
        rw [laws_toMach.fv_eq, laws_toState.fv_eq, to_ValS _ (by omega), Option.bind_some, to_CellS _ (by omega), Option.bind_some, Option.bind_some, to_IntS _ (by omega), Option.bind_some]
      rw [if_neg h2, to_Prog x hb1, tm]
      simp only [Option.bind_some, cv_Prog, e1, e2]
      have he := eq_Prog (cv_Prog x) (by unfold ok38 cv_Prog; simp; omega)
      simp only [cv_Prog] at he
      rw [if_pos trivial, he, Option.bind_some, if_pos rfl, laws_eqMach.fv_eq, laws_eqState.fv_eq, eq_ValS _ (by simp; omega), Option.bind_some, if_pos rfl, eq_CellS _ (by simp; omega)]
      simp [eq_IntS y.f4 (by omega)]

end Go.Proofs.YtdpioibndfpjfaaGreatDoor.Pure
