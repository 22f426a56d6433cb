/- The program's StateOk returns what the reference's returns, for every state. -/
import Derived.Test.YtejndaljfbclnaaDoorQFnExactStateOkx4
import Derived.Test.YtejndaljfbclnaaDoorWFnExactStateOk
namespace Go.Proofs.YtejndaljfbclnaaDoor.Pure
open Go.RowKit Go.Proofs.YtejndaljfbclnaaDoor.QFnExactStateOk Go.Proofs.YtejndaljfbclnaaDoorW.PrintWords Go.Proofs.YtejndaljfbclnaaDoorW.PrintLast Go.Proofs.YtejndaljfbclnaaDoorW.PrintMore Go.Proofs.YtejndaljfbclnaaDoorW.Lims
open Go.Proofs.YtejndaljfbclnaaDoorW.Bulk
namespace FnExactStateOkAid

theorem rdin23 (xs : List S23) (i : Nat) (h : i < xs.length) : rd_T23 xs (i : Int) = xs[i] := by
  unfold rd_T23
  simp [List.getD_eq_getElem?_getD, h]

theorem rdin26 (xs : List S26) (i : Nat) (h : i < xs.length) : rd_T26 xs (i : Int) = xs[i] := by
  unfold rd_T26
  simp [List.getD_eq_getElem?_getD, h]

theorem rdin48 (xs : List S48) (i : Nat) (h : i < xs.length) : rd_T48 xs (i : Int) = xs[i] := by
  unfold rd_T48
  simp [List.getD_eq_getElem?_getD, h]

theorem rdin84 (xs : List S84) (i : Nat) (h : i < xs.length) : rd_T84 xs (i : Int) = xs[i] := by
  unfold rd_T84
  simp [List.getD_eq_getElem?_getD, h]

theorem rdin128 (xs : List S128) (i : Nat) (h : i < xs.length) : rd_T128 xs (i : Int) = xs[i] := by
  unfold rd_T128
  simp [List.getD_eq_getElem?_getD, h]

def bl_Val (x : S23) : Nat := (x.f2.size + 0)
theorem sz_Val (x : S23) (hx : Wf23 x) (left : Int) (h0 : 0 ≤ left) (h1 : left ≤ 1048576) : laws_szVal.f (x.f0) (x.f1) (x.f2) left = some (dn (bl_Val x) left) := by
  unfold laws_szVal.f
  show _ = some (dn (x.f2.size + 0) left)
  refine dn_cut h0 h1 (len_le hx.2.2) fun t ht h0 h1 => ?_
  rw [ht]
  exact dn_end _ h0

def bls_Val (l : List S23) : Nat := l.length + (l.map bl_Val).sum
theorem sz_ValS (l : List S23) (hx : l.length ≤ maxLen ∧ ∀ x_ ∈ l, Wf23 x_) (left : Int) (h0 : 0 ≤ left) (h1 : left ≤ 1048576) : laws_szValS.fv l left = some (dn (bls_Val l) left) := by
  rw [laws_szValS.fv_eq]
  have hl := len_le hx.1
  refine dn_cut h0 h1 hl fun t ht h0 h1 => ?_
  rw [ht]
  exact sz_all laws_szValS.l0v (fun x0 x1 x5 => (laws_szVal.f ((rd_T23 x0 x5).f0) ((rd_T23 x0 x5).f1) ((rd_T23 x0 x5).f2) x1)) bl_Val (by intro x l i; exact laws_szValS.l0v_eq x l i) l hl (fun i h left h0 h1 => by simp only [rdin23 l i h]; exact sz_Val l[i] (hx.2 _ (List.getElem_mem h)) left h0 h1) t h0 h1

def bl_Cell (x : S128) : Nat := (x.f1.size + (bl_Val x.f2 + 0))
theorem sz_Cell (x : S128) (hx : Wf128 x) (left : Int) (h0 : 0 ≤ left) (h1 : left ≤ 1048576) : laws_szCell.f (x.f0) (x.f1) (x.f2.f0) (x.f2.f1) (x.f2.f2) left = some (dn (bl_Cell x) left) := by
  unfold laws_szCell.f
  show _ = some (dn (x.f1.size + (bl_Val x.f2 + 0)) left)
  refine dn_cut h0 h1 (len_le hx.2.1) fun t ht h0 h1 => ?_
  rw [ht]
  refine dn_bind h0 h1 (sz_Val x.f2 hx.2.2 _ h0 h1) fun t h0 h1 => ?_
  exact dn_end _ h0

def bls_Cell (l : List S128) : Nat := l.length + (l.map bl_Cell).sum
theorem sz_CellS (l : List S128) (hx : l.length ≤ maxLen ∧ ∀ x_ ∈ l, Wf128 x_) (left : Int) (h0 : 0 ≤ left) (h1 : left ≤ 1048576) : laws_szCellS.fv l left = some (dn (bls_Cell l) left) := by
  rw [laws_szCellS.fv_eq]
  have hl := len_le hx.1
  refine dn_cut h0 h1 hl fun t ht h0 h1 => ?_
  rw [ht]
  exact sz_all laws_szCellS.l0v (fun x0 x1 x5 => (laws_szCell.f ((rd_T128 x0 x5).f0) ((rd_T128 x0 x5).f1) ((rd_T128 x0 x5).f2.f0) ((rd_T128 x0 x5).f2.f1) ((rd_T128 x0 x5).f2.f2) x1)) bl_Cell (by intro x l i; exact laws_szCellS.l0v_eq x l i) l hl (fun i h left h0 h1 => by simp only [rdin128 l i h]; exact sz_Cell l[i] (hx.2 _ (List.getElem_mem h)) left h0 h1) t h0 h1

def bl_State (x : S48) : Nat := (bls_Val x.f0 + (bls_Cell x.f1 + 0))
theorem sz_State (x : S48) (hx : Wf48 x) (left : Int) (h0 : 0 ≤ left) (h1 : left ≤ 1048576) : laws_szState.fv (x.f0) (x.f1) (x.f2) (x.f3) left = some (dn (bl_State x) left) := by
  rw [laws_szState.fv_eq]
  show _ = some (dn (bls_Val x.f0 + (bls_Cell x.f1 + 0)) left)
  refine dn_bind h0 h1 (sz_ValS x.f0 hx.1 _ h0 h1) fun t h0 h1 => ?_
  refine dn_bind h0 h1 (sz_CellS x.f1 hx.2.1 _ h0 h1) fun t h0 h1 => ?_
  exact dn_end _ h0

def cv_Val (x : S23) : S26 := ⟨x.f0, x.f1, x.f2⟩
theorem to_Val (x : S23) (hb : bl_Val x ≤ 1048576) : laws_toVal.f (x.f0) (x.f1) (x.f2) = some ((cv_Val x).f0, (cv_Val x).f1, (cv_Val x).f2) := by
  unfold bl_Val at hb
  unfold laws_toVal.f
  all_goals rfl

theorem to_ValS (l : List S23) (hb : bls_Val l ≤ 1048576) : laws_toValS.fv l = some (l.map cv_Val) := by
  have hb' := hb
  unfold bls_Val at hb'
  rw [laws_toValS.fv_eq, if_pos (by omega), if_pos (by omega)]
  have := to_all laws_toValS.l0v (fun x0 x4 => (laws_toVal.f ((rd_T23 x0 x4).f0) ((rd_T23 x0 x4).f1) ((rd_T23 x0 x4).f2))) (fun bt140 => (⟨bt140.1, bt140.2.1, bt140.2.2⟩ : S26)) cv_Val (by intro x acc i; exact laws_toValS.l0v_eq x acc i) l (by omega) (fun i h => by
    have hm := le_sum (List.mem_map_of_mem (f := bl_Val) (List.getElem_mem h))
    simp only [rdin23 l i h]; exact ⟨_, to_Val l[i] (by omega), rfl⟩) z26
  simpa using this

def cv_Cell (x : S128) : S84 := ⟨x.f0, x.f1, cv_Val x.f2⟩
theorem to_Cell (x : S128) (hb : bl_Cell x ≤ 1048576) : laws_toCell.f (x.f0) (x.f1) (x.f2.f0) (x.f2.f1) (x.f2.f2) = some ((cv_Cell x).f0, (cv_Cell x).f1, (cv_Cell x).f2.f0, (cv_Cell x).f2.f1, (cv_Cell x).f2.f2) := by
  unfold bl_Cell at hb
  unfold laws_toCell.f
  rw [to_Val x.f2 (by omega), Option.bind_some]
  all_goals rfl

theorem to_CellS (l : List S128) (hb : bls_Cell l ≤ 1048576) : laws_toCellS.fv l = some (l.map cv_Cell) := by
  have hb' := hb
  unfold bls_Cell at hb'
  rw [laws_toCellS.fv_eq, if_pos (by omega), if_pos (by omega)]
  have := to_all laws_toCellS.l0v (fun x0 x4 => (laws_toCell.f ((rd_T128 x0 x4).f0) ((rd_T128 x0 x4).f1) ((rd_T128 x0 x4).f2.f0) ((rd_T128 x0 x4).f2.f1) ((rd_T128 x0 x4).f2.f2))) (fun bt154 => (⟨bt154.1, bt154.2.1, (⟨bt154.2.2.1, bt154.2.2.2.1, bt154.2.2.2.2⟩ : S26)⟩ : S84)) cv_Cell (by intro x acc i; exact laws_toCellS.l0v_eq x acc i) l (by omega) (fun i h => by
    have hm := le_sum (List.mem_map_of_mem (f := bl_Cell) (List.getElem_mem h))
    simp only [rdin128 l i h]; exact ⟨_, to_Cell l[i] (by omega), rfl⟩) z84
  simpa using this

theorem to_State (x : S48) (hb : bl_State x ≤ 1048576) : laws_toState.fv (x.f0) (x.f1) (x.f2) (x.f3) = some (x.f0.map cv_Val, x.f1.map cv_Cell, x.f2, x.f3) := by
  unfold bl_State at hb
  rw [laws_toState.fv_eq]
  rw [to_ValS x.f0 (by omega), Option.bind_some]
  rw [to_CellS x.f1 (by omega), Option.bind_some]
  all_goals rfl

theorem eq_Val (y : S26) : laws_eqVal.f (y.f0) (y.f1) (y.f2) (y.f0) (y.f1) (y.f2) = some true := by
  unfold laws_eqVal.f
  simp

theorem eq_ValS (l : List S26) (h : l.length ≤ 9223372036854775807) : laws_eqValS.fv l l = some true := by
  rw [laws_eqValS.fv_eq, if_pos rfl]
  exact eq_all laws_eqValS.l0v (fun x0 x1 x5 => (laws_eqVal.f ((rd_T26 x0 x5).f0) ((rd_T26 x0 x5).f1) ((rd_T26 x0 x5).f2) ((rd_T26 x1 x5).f0) ((rd_T26 x1 x5).f1) ((rd_T26 x1 x5).f2))) (by intro x y i; exact laws_eqValS.l0v_eq x y i) l h (fun i hi => by simp only [rdin26 l i hi]; exact eq_Val l[i])

theorem eq_Cell (y : S84) : laws_eqCell.f (y.f0) (y.f1) (y.f2.f0) (y.f2.f1) (y.f2.f2) (y.f0) (y.f1) (y.f2.f0) (y.f2.f1) (y.f2.f2) = some true := by
  unfold laws_eqCell.f
  simp [eq_Val y.f2 ]

theorem eq_CellS (l : List S84) (h : l.length ≤ 9223372036854775807) : laws_eqCellS.fv l l = some true := by
  rw [laws_eqCellS.fv_eq, if_pos rfl]
  exact eq_all laws_eqCellS.l0v (fun x0 x1 x5 => (laws_eqCell.f ((rd_T84 x0 x5).f0) ((rd_T84 x0 x5).f1) ((rd_T84 x0 x5).f2.f0) ((rd_T84 x0 x5).f2.f1) ((rd_T84 x0 x5).f2.f2) ((rd_T84 x1 x5).f0) ((rd_T84 x1 x5).f1) ((rd_T84 x1 x5).f2.f0) ((rd_T84 x1 x5).f2.f1) ((rd_T84 x1 x5).f2.f2))) (by intro x y i; exact laws_eqCellS.l0v_eq x y i) l h (fun i hi => by simp only [rdin84 l i hi]; exact eq_Cell l[i])

theorem eq_State (l0_0 : List S26) (l0_1 : List S84) (a0_2 : Int) (a0_3 : Int) (hl0_0 : l0_0.length ≤ 9223372036854775807) (hl0_1 : l0_1.length ≤ 9223372036854775807) : laws_eqState.fv l0_0 l0_1 a0_2 a0_3 l0_0 l0_1 a0_2 a0_3 = some true := by
  rw [laws_eqState.fv_eq]
  simp [eq_ValS l0_0 hl0_0, eq_CellS l0_1 hl0_1]


/-! ### texts as rows of bytes -/
def B (l : List UInt8) : ByteArray := ⟨l.toArray⟩
theorem B_self (s : ByteArray) : B s.data.toList = s := by cases s; simp [B]
theorem B_size (l : List UInt8) : (B l).size = l.length := by show l.toArray.size = l.length; simp
theorem B_data (l : List UInt8) : (B l).data.toList = l := by simp [B]
theorem B_append (a b : List UInt8) : B a ++ B b = B (a ++ b) := by
  apply ByteArray.ext
  rw [ByteArray.data_append]
  simp [B]
theorem B_inj {a b : List UInt8} (h : B a = B b) : a = b := by
  have := congrArg (fun s : ByteArray => s.data.toList) h
  simpa [B] using this
theorem B_extract (l : List UInt8) (i j : Nat) : (B l).extract i j = B ((l.drop i).take (j - i)) := by rw [Lib.extract_eq, B_data]; rfl
theorem B_toList (l : List UInt8) : (B l).toList = l := by rw [Lib.toList_data, B_data]
theorem B_bt (l : List UInt8) (i : Nat) (h : i < l.length) : bt (B l) (i : Int) = (l[i].toNat : Int) := by
  have h' : (i : Int).toNat < (B l).size := by rw [Int.toNat_natCast, B_size]; exact h
  rw [← bt_at (B l) i h']
  rfl
theorem wrap_in {n : Int} (h0 : -9223372036854775808 ≤ n) (h1 : n ≤ 9223372036854775807) : wrap64 n = n := by unfold wrap64; omega
theorem byte_is (b c : UInt8) (n : Int) (hc : (c.toNat : Int) = n) : ((b.toNat : Int) = n) ↔ b = c := by
  rw [← UInt8.toNat_inj, ← hc]; omega
theorem byte_ofNat (n : Nat) (h : n < 256) : (UInt8.ofNat n).toNat = n := by rw [UInt8.toNat_ofNat']; omega

/-! ### rows of digits -/
def isD (b : UInt8) : Bool := decide (48 ≤ b.toNat) && decide (b.toNat ≤ 57)
def run (l : List UInt8) (i : Nat) : List UInt8 := (l.drop i).takeWhile isD
theorem run_end (l : List UInt8) (i : Nat) (h : l.length ≤ i) : run l i = [] := by unfold run; rw [List.drop_eq_nil_of_le h]; rfl
theorem run_step (l : List UInt8) (i : Nat) (h : i < l.length) : run l i = if isD l[i] then l[i] :: run l (i + 1) else [] := by
  unfold run
  rw [List.drop_eq_getElem_cons h, List.takeWhile_cons]
theorem run_le (l : List UInt8) (i : Nat) (h : i ≤ l.length) : i + (run l i).length ≤ l.length := by
  have h1 : (run l i).length ≤ (l.drop i).length := (List.takeWhile_sublist _).length_le
  rw [List.length_drop] at h1; omega
theorem run_all (l : List UInt8) (i : Nat) : ∀ b ∈ run l i, isD b = true := fun b hb => by
  have := List.all_takeWhile (p := isD) (l := l.drop i)
  exact List.all_eq_true.1 this b hb
theorem run_take (l : List UInt8) (i : Nat) : (l.drop i).take (run l i).length = run l i := by
  have := List.prefix_iff_eq_take.1 (List.takeWhile_prefix isD (l := l.drop i))
  exact this.symm
theorem isD_iff (b : UInt8) : isD b = true ↔ 48 ≤ b.toNat ∧ b.toNat ≤ 57 := by unfold isD; simp
theorem dig_spec (b : UInt8) : spec_l2Digit.f (b.toNat : Int) = some (isD b) := by
  unfold spec_l2Digit.f isD
  by_cases h : 48 ≤ b.toNat
  · rw [if_pos (by omega)]; simp [h]; omega
  · rw [if_neg (by omega)]; simp [h]
def acc (n : Int) : List UInt8 → Int
  | [] => n
  | b :: r => acc (if n ≤ 9000000000000 then 10 * n + ((b.toNat : Int) - 48) * 1000000 else n) r
def fr (n u : Int) : List UInt8 → Int
  | [] => n
  | b :: r => fr (n + ((b.toNat : Int) - 48) * u) (u / 10) r
def val (a : Nat) : List UInt8 → Nat
  | [] => a
  | b :: r => val (a * 10 + (b.toNat - 48)) r
theorem acc_bd (l : List UInt8) : ∀ n : Int, (∀ b ∈ l, isD b = true) → 0 ≤ n → n ≤ 100000000000000 → 0 ≤ acc n l ∧ acc n l ≤ 100000000000000 := by
  induction l with
  | nil => intro n _ h0 h1; exact ⟨h0, h1⟩
  | cons b r ih =>
    intro n hl h0 h1
    have hb := (isD_iff b).1 (hl b List.mem_cons_self)
    refine ih _ (fun c hc => hl c (List.mem_cons_of_mem _ hc)) ?_ ?_ <;> split <;> omega
theorem acc_stop (l : List UInt8) : ∀ n : Int, 9000000000000 < n → acc n l = n := by
  induction l with
  | nil => intro n _; rfl
  | cons b r ih => intro n h; unfold acc; rw [if_neg (by omega)]; exact ih n h
theorem val_ge (l : List UInt8) : ∀ a : Nat, a ≤ val a l := by
  induction l with
  | nil => intro a; exact Nat.le_refl _
  | cons b r ih => intro a; unfold val; exact Nat.le_trans (by omega) (ih _)
theorem acc_val (l : List UInt8) : ∀ v : Nat, (∀ b ∈ l, isD b = true) → v ≤ 9000000 → (val v l ≤ 9000000 → acc ((v : Int) * 1000000) l = (val v l : Int) * 1000000) ∧ (9000000 < val v l → 9000000000000 < acc ((v : Int) * 1000000) l) := by
  induction l with
  | nil => intro v _ h; exact ⟨fun _ => rfl, fun h2 => by unfold val at h2; omega⟩
  | cons b r ih =>
    intro v hl h
    have hb := (isD_iff b).1 (hl b List.mem_cons_self)
    unfold acc val
    rw [if_pos (by omega), show 10 * ((v : Int) * 1000000) + ((b.toNat : Int) - 48) * 1000000 = ((v * 10 + (b.toNat - 48) : Nat) : Int) * 1000000 by omega]
    generalize hv : v * 10 + (b.toNat - 48) = v2
    by_cases h2 : v2 ≤ 9000000
    · exact ih v2 (fun c hc => hl c (List.mem_cons_of_mem _ hc)) h2
    · have := val_ge r v2
      refine ⟨fun h3 => by omega, fun _ => ?_⟩
      rw [acc_stop _ _ (by omega)]; omega
theorem fr_add (l : List UInt8) : ∀ n u : Int, fr n u l = n + fr 0 u l := by
  induction l with
  | nil => intro n u; simp [fr]
  | cons b r ih =>
    intro n u
    unfold fr
    rw [ih (n + _), ih (0 + _)]; omega
theorem fr_bd (l : List UInt8) : ∀ u : Int, (∀ b ∈ l, isD b = true) → 0 ≤ u → 0 ≤ fr 0 u l ∧ fr 0 u l ≤ 10 * u := by
  induction l with
  | nil => intro u _ h; unfold fr; omega
  | cons b r ih =>
    intro u hl h
    have hb := (isD_iff b).1 (hl b List.mem_cons_self)
    unfold fr
    rw [fr_add]
    have := ih (u / 10) (fun c hc => hl c (List.mem_cons_of_mem _ hc)) (by omega)
    obtain ⟨d, hd, hd2⟩ : ∃ d : Nat, (b.toNat : Int) - 48 = d ∧ d ≤ 9 := ⟨b.toNat - 48, by omega, by omega⟩
    rw [hd]
    have hm : (d : Int) * u ≤ 9 * u := Int.mul_le_mul_of_nonneg_right (by omega) h
    have hm0 : 0 ≤ (d : Int) * u := Int.mul_nonneg (by omega) h
    omega

/-! ### the reference's loops -/
theorem spec_l1 (l : List UInt8) (hl : l.length ≤ 1048576) (neg : Bool) (d : Nat) : ∀ (i : Nat) (n many : Int), l.length - i ≤ d → i ≤ l.length → 0 ≤ n → n ≤ 100000000000000 → 0 ≤ many → many + (l.length - i : Nat) ≤ 2000000 →
    spec_DecFront.l1v (B l) (i : Int) neg n many = spec_DecFront.j6v (B l) ((i + (run l i).length : Nat) : Int) neg (acc n (run l i)) (many + ((run l i).length : Int)) false := by
  induction d with
  | zero =>
    intro i n many h1 h2 _ _ _ _
    rw [spec_DecFront.l1v_eq, if_neg (by rw [B_size]; omega), run_end l i (by omega)]
    simp [acc]
  | succ d ih =>
    intro i n many h1 h2 h3 h4 h5 h6
    rw [spec_DecFront.l1v_eq]
    by_cases h : i < l.length
    · rw [if_pos (by rw [B_size]; omega), if_pos (by omega), B_bt l i h, dig_spec, Option.bind_some, run_step l i h]
      by_cases hd : isD l[i] = true
      · have hb := (isD_iff _).1 hd
        rw [hd, if_pos rfl, spec_DecFront.j6v_eq, if_pos rfl]
        have e1 : wrap64 ((i : Int) + 1) = ((i + 1 : Nat) : Int) := by rw [wrap_in (by omega) (by omega)]; omega
        have e2 : wrap64 (many + 1) = many + 1 := wrap_in (by omega) (by omega)
        by_cases hn : n ≤ 9000000000000
        · rw [if_pos hn, if_pos (by omega), if_pos (by rw [B_size]; omega), B_bt l i h, e1, e2, wrap_in (n := ((l[i].toNat : Nat) : Int)) (by omega) (by omega), wrap_in (n := 10 * n) (by omega) (by omega), wrap_in (n := (l[i].toNat : Int) - 48) (by omega) (by omega), wrap_in (n := ((l[i].toNat : Int) - 48) * 1000000) (by omega) (by omega), wrap_in (by omega) (by omega)]
          rw [ih (i + 1) _ _ (by omega) (by omega) (by omega) (by omega) (by omega) (by omega)]
          simp only [List.length_cons, acc, if_pos hn]
          congr 1 <;> omega
        · rw [if_neg hn, e1, e2, ih (i + 1) _ _ (by omega) (by omega) (by omega) (by omega) (by omega) (by omega)]
          simp only [List.length_cons, acc, if_neg hn]
          congr 1 <;> omega
      · rw [Bool.not_eq_true] at hd
        rw [hd]
        simp [acc]
    · rw [if_neg (by rw [B_size]; omega), run_end l i (by omega)]
      simp [acc]
theorem spec_l2 (l : List UInt8) (hl : l.length ≤ 1048576) (neg : Bool) (d : Nat) : ∀ (i : Nat) (n many u : Int), l.length - i ≤ d → i ≤ l.length → 0 ≤ n → 0 ≤ u → u ≤ 100000 → n + 10 * u ≤ 200000000000000 → 0 ≤ many → many + (l.length - i : Nat) ≤ 4000000 →
    spec_DecFront.l2v (B l) (i : Int) neg n many u = spec_DecFront.j9v ((i + (run l i).length : Nat) : Int) neg (fr n u (run l i)) (many + ((run l i).length : Int)) := by
  induction d with
  | zero =>
    intro i n many u h1 h2 _ _ _ _ _ _
    rw [spec_DecFront.l2v_eq, if_neg (by rw [B_size]; omega), run_end l i (by omega)]
    simp [fr]
  | succ d ih =>
    intro i n many u h1 h2 h3 h4 h5 h6 h7 h8
    rw [spec_DecFront.l2v_eq]
    by_cases h : i < l.length
    · rw [if_pos (by rw [B_size]; omega), if_pos (by omega), B_bt l i h, dig_spec, Option.bind_some, run_step l i h]
      by_cases hd : isD l[i] = true
      · have hb := (isD_iff _).1 hd
        rw [hd, if_pos rfl, if_pos rfl]
        obtain ⟨q, hq, hq2⟩ : ∃ q : Nat, (l[i].toNat : Int) - 48 = q ∧ q ≤ 9 := ⟨l[i].toNat - 48, by omega, by omega⟩
        have hm : (q : Int) * u ≤ 9 * u := Int.mul_le_mul_of_nonneg_right (by omega) h4
        have hm0 : 0 ≤ (q : Int) * u := Int.mul_nonneg (by omega) h4
        rw [show wrap64 ((i : Int) + 1) = ((i + 1 : Nat) : Int) by rw [wrap_in (by omega) (by omega)]; omega, wrap_in (n := many + 1) (by omega) (by omega), wrap_in (n := ((l[i].toNat : Nat) : Int)) (by omega) (by omega), hq, wrap_in (n := (q : Int)) (by omega) (by omega), wrap_in (n := (q : Int) * u) (by omega) (by omega), wrap_in (n := n + (q : Int) * u) (by omega) (by omega), Int.tdiv_eq_ediv_of_nonneg h4, wrap_in (n := u / 10) (by omega) (by omega)]
        rw [ih (i + 1) _ _ _ (by omega) (by omega) (by omega) (by omega) (by omega) (by omega) (by omega) (by omega)]
        simp only [List.length_cons, fr, hq]
        congr 1 <;> omega
      · rw [Bool.not_eq_true] at hd
        rw [hd]
        simp [fr]
    · rw [if_neg (by rw [B_size]; omega), run_end l i (by omega)]
      simp [fr]

/-! ### what both come to, behind blanks and sign -/
def restOf (l : List UInt8) (e : Nat) : List UInt8 := if l[e]? = some 46 then run l (e + 1) else []
def tailOf (l : List UInt8) (q : Nat) (neg : Bool) : Int × Int :=
  let ws := run l q; let e := q + ws.length; let rs := restOf l e
  if ws = [] ∧ rs = [] then (0, 0) else
  let n : Int := (val 0 ws : Int) * 1000000 + fr 0 100000 rs
  if n ≤ 9000000000000 then (if neg then -n else n, ((if rs = [] then e else e + 1 + rs.length : Nat) : Int)) else (0, 0)
theorem spec_j9 (e : Nat) (neg : Bool) (n many : Int) (_he : e ≤ 2000000) (h0 : 0 ≤ n) (h1 : n ≤ 200000000000000) : spec_DecFront.j9v (e : Int) neg n many = some (if many = 0 then (0, 0) else if n ≤ 9000000000000 then (if neg then -n else n, (e : Int)) else (0, 0)) := by
  rw [spec_DecFront.j9v_eq]
  by_cases h : many = 0
  · rw [if_pos h, if_pos h, spec_DecFront.j10v_eq, if_pos rfl]
  · rw [if_neg h, if_neg h, spec_DecFront.j10v_eq]
    by_cases hn : n ≤ 9000000000000
    · rw [if_neg (by simpa using hn), if_pos hn]
      cases neg
      · simp
      · rw [if_pos rfl, wrap_in (by omega) (by omega)]; simp
    · rw [if_pos (by simpa using hn), if_neg hn]
theorem ws_bd (l : List UInt8) (q : Nat) : (val 0 (run l q) ≤ 9000000 → acc 0 (run l q) = (val 0 (run l q) : Int) * 1000000) ∧ (9000000 < val 0 (run l q) → 9000000000000 < acc 0 (run l q)) := by
  have := acc_val (run l q) 0 (run_all l q) (by omega)
  simpa using this
theorem spec_tail (l : List UInt8) (hl : l.length ≤ 1048576) (q : Nat) (hq : q ≤ l.length) (neg : Bool) : spec_DecFront.j4v (B l) (q : Int) neg = some (tailOf l q neg) := by
  rw [spec_DecFront.j4v_eq, spec_l1 l hl neg _ q 0 0 (Nat.le_refl _) hq (by omega) (by omega) (by omega) (by omega)]
  have hr := run_le l q hq
  have hab := acc_bd (run l q) 0 (run_all l q) (by omega) (by omega)
  obtain ⟨hv1, hv2⟩ := ws_bd l q
  unfold tailOf
  simp only []
  generalize hw : run l q = ws at *
  generalize he : q + ws.length = e at *
  rw [spec_DecFront.j6v_eq, if_neg (by simp)]
  have e1 : wrap64 ((e : Int) + 1) = ((e + 1 : Nat) : Int) := by rw [wrap_in (by omega) (by omega)]; omega
  rw [e1]
  have hnone : restOf l e = [] → spec_DecFront.j7v (B l) (e : Int) neg (acc 0 ws) (0 + (ws.length : Int)) false = some (if ws = [] ∧ restOf l e = [] then (0, 0) else if (val 0 ws : Int) * 1000000 + fr 0 100000 (restOf l e) ≤ 9000000000000 then (if neg then -((val 0 ws : Int) * 1000000 + fr 0 100000 (restOf l e)) else (val 0 ws : Int) * 1000000 + fr 0 100000 (restOf l e), ((if restOf l e = [] then e else e + 1 + (restOf l e).length : Nat) : Int)) else (0, 0)) := by
    intro h0
    rw [spec_DecFront.j7v_eq, if_neg (by simp), spec_j9 e neg _ _ (by omega) (by omega) (by omega), h0]
    by_cases hws : ws = []
    · subst hws; simp
    · have hlen : 0 < ws.length := List.length_pos_iff.2 hws
      have c1 : ¬ (0 + (ws.length : Int) = 0) := by omega
      have c2 : ¬ (ws = [] ∧ ([] : List UInt8) = []) := fun x => hws x.1
      rw [if_neg c1, if_neg c2]
      simp only [fr, Int.add_zero, if_true]
      by_cases hv : val 0 ws ≤ 9000000
      · rw [hv1 hv]
      · have h9 := hv2 (by omega)
        have c3 : ¬ (acc 0 ws ≤ 9000000000000) := by omega
        have c4 : ¬ ((val 0 ws : Int) * 1000000 ≤ 9000000000000) := by omega
        rw [if_neg c3, if_neg c4]
  by_cases h1 : e + 1 < l.length
  · have hel : e < l.length := by omega
    rw [if_pos (by rw [B_size]; omega), if_pos (by omega), if_pos (by rw [B_size]; omega), B_bt l e hel]
    have hdot := byte_is l[e] 46 46 rfl
    by_cases hd : l[e] = 46
    · rw [if_pos (hdot.2 hd), if_pos (by omega), B_bt l (e + 1) h1, dig_spec, Option.bind_some]
      have hrest : restOf l e = run l (e + 1) := by unfold restOf; rw [List.getElem?_eq_getElem hel, hd, if_pos rfl]
      by_cases hdd : isD l[e + 1] = true
      · rw [hdd, spec_DecFront.j7v_eq, if_pos rfl, e1, spec_l2 l hl neg _ (e + 1) _ _ _ (Nat.le_refl _) (by omega) (by omega) (by omega) (by omega) (by omega) (by omega) (by omega), fr_add]
        have hne : run l (e + 1) ≠ [] := by rw [run_step l (e + 1) h1, hdd]; simp
        have hlen : 0 < (run l (e + 1)).length := List.length_pos_iff.2 hne
        have hr2 := run_le l (e + 1) (by omega)
        have hf := fr_bd (run l (e + 1)) 100000 (run_all _ _) (by omega)
        have c1 : ¬ (0 + (ws.length : Int) + ((run l (e + 1)).length : Int) = 0) := by omega
        have c2 : ¬ (ws = [] ∧ run l (e + 1) = []) := fun x => hne x.2
        rw [spec_j9 _ neg _ _ (by omega) (by omega) (by omega), hrest, if_neg c1, if_neg c2, if_neg hne]
        by_cases hv : val 0 ws ≤ 9000000
        · rw [hv1 hv]
        · have h9 := hv2 (by omega)
          have c3 : ¬ (acc 0 ws + fr 0 100000 (run l (e + 1)) ≤ 9000000000000) := by omega
          have c4 : ¬ ((val 0 ws : Int) * 1000000 + fr 0 100000 (run l (e + 1)) ≤ 9000000000000) := by omega
          rw [if_neg c3, if_neg c4]
      · rw [Bool.not_eq_true] at hdd
        rw [hdd]
        exact hnone (by rw [hrest, run_step l (e + 1) h1, hdd]; simp)
    · rw [if_neg (fun x => hd (hdot.1 x))]
      exact hnone (by unfold restOf; rw [List.getElem?_eq_getElem hel, if_neg (by simpa using hd)])
  · rw [if_neg (by rw [B_size]; omega)]
    refine hnone ?_
    unfold restOf
    split
    · exact run_end l _ (by omega)
    · rfl

/-! ### the program's side -/
theorem digs_loop (l : List UInt8) (hl : l.length ≤ 1048576) (i : Nat) (d : Nat) : ∀ k : Nat, l.length - (i + k) ≤ d → i + k ≤ l.length → impl_digitsAt.l0v (B l) (i : Int) (k : Int) = some ((k + (run l (i + k)).length : Nat) : Int) := by
  induction d with
  | zero =>
    intro k h1 h2
    rw [impl_digitsAt.l0v_eq, wrap_in (by omega) (by omega), if_neg (by rw [B_size]; omega), run_end l _ (by omega)]
    simp
  | succ d ih =>
    intro k h1 h2
    rw [impl_digitsAt.l0v_eq, wrap_in (n := (i : Int) + k) (by omega) (by omega)]
    by_cases h : i + k < l.length
    · rw [if_pos (by rw [B_size]; omega), if_pos (by omega), show (i : Int) + k = ((i + k : Nat) : Int) by omega, B_bt l (i + k) h, run_step l (i + k) h]
      by_cases hd : isD l[i + k] = true
      · have hb := (isD_iff _).1 hd
        rw [if_pos (by omega), if_pos (by omega), wrap_in (by omega) (by omega), show (k : Int) + 1 = ((k + 1 : Nat) : Int) by omega, ih (k + 1) (by omega) (by omega), hd]
        simp [Nat.add_assoc, Nat.add_comm]
      · have hb : ¬ (48 ≤ l[i + k].toNat ∧ l[i + k].toNat ≤ 57) := fun e => hd ((isD_iff _).2 e)
        rw [Bool.not_eq_true] at hd
        rw [hd]
        by_cases h48 : (l[i + k].toNat : Int) ≥ 48
        · rw [if_pos h48, if_neg (by omega)]; simp
        · rw [if_neg h48]; simp
    · rw [if_neg (by rw [B_size]; omega), run_end l _ (by omega)]
      simp
theorem digs (l : List UInt8) (hl : l.length ≤ 1048576) (i : Nat) (hi : i ≤ l.length) : impl_digitsAt.fv (B l) (i : Int) = some ((run l i).length : Int) := by
  rw [impl_digitsAt.fv_eq]
  have := digs_loop l hl i _ 0 (Nat.le_refl _) (by omega)
  simpa using this
theorem dec_val (ws : List UInt8) : ∀ a : Nat, (∀ b ∈ ws, isD b = true) → ∀ Y, Lib.decFrom a (ws ++ Y) = Lib.decFrom (val a ws) Y := by
  induction ws with
  | nil => intro a _ Y; rfl
  | cons b r ih =>
    intro a hl Y
    have hb := (isD_iff b).1 (hl b List.mem_cons_self)
    rw [List.cons_append, Lib.decFrom]
    have : Lib.digitVal b = some (b.toNat - 48) := by unfold Lib.digitVal; rw [if_pos hb]
    rw [this]
    exact ih _ (fun c hc => hl c (List.mem_cons_of_mem _ hc)) Y
theorem fr_cons (n u : Int) (b : UInt8) (r : List UInt8) : fr n u (b :: r) = fr (n + ((b.toNat : Int) - 48) * u) (u / 10) r := rfl
theorem atoi48 (x : List UInt8) : Lib.atoi (48 :: x) = (Lib.decNat (48 :: x)).map fun (m : Nat) => (m : Int) := by
  show (if ((48 : UInt8) == 45) = true then Option.map (fun m : Nat => -(m : Int)) (Lib.decNat x) else if ((48 : UInt8) == 43) = true then Option.map (fun m : Nat => (m : Int)) (Lib.decNat x) else Option.map (fun m : Nat => (m : Int)) (Lib.decNat (48 :: x))) = _
  rw [if_neg (by decide), if_neg (by decide)]
def ud : Nat → Int | 0 => 0 | k + 1 => 10 ^ k
theorem ud_div (k : Nat) : ud (k + 1) / 10 = ud k := by
  cases k with
  | zero => rfl
  | succ k => show (10 : Int) ^ (k + 1) / 10 = 10 ^ k; rw [Int.pow_succ]; omega
theorem pad (k : Nat) : ∀ (a : Nat) (rs : List UInt8) (z : Nat), k ≤ z → (∀ b ∈ rs, isD b = true) → ∃ m : Nat, Lib.decFrom a ((rs ++ List.replicate z 48).take k) = some m ∧ (m : Int) = (a : Int) * 10 ^ k + fr 0 (ud k) rs := by
  induction k with
  | zero =>
    intro a rs z _ hl
    refine ⟨a, by simp [Lib.decFrom], ?_⟩
    have : ∀ r : List UInt8, fr 0 0 r = 0 := by
      intro r
      induction r with
      | nil => rfl
      | cons b r ih => simp [fr, ih]
    simp [ud, this]
  | succ k ih =>
    intro a rs z hz hl
    have key : ∀ (b : UInt8) (X : List UInt8), isD b = true → Lib.decFrom a (b :: X) = Lib.decFrom (a * 10 + (b.toNat - 48)) X := by
      intro b X hb
      rw [Lib.decFrom]
      have : Lib.digitVal b = some (b.toNat - 48) := by unfold Lib.digitVal; rw [if_pos ((isD_iff b).1 hb)]
      rw [this]
    cases rs with
    | nil =>
      obtain ⟨z, rfl⟩ : ∃ y, z = y + 1 := ⟨z - 1, by omega⟩
      obtain ⟨m, hm, he⟩ := ih (a * 10 + 0) [] z (by omega) (by simp)
      refine ⟨m, ?_, ?_⟩
      · rw [List.nil_append, List.replicate_succ, List.take_succ_cons, key _ _ (by decide)]
        exact hm
      · rw [he]
        have e : ((a * 10 + 0 : Nat) : Int) = (a : Int) * 10 := by omega
        rw [show ∀ u, fr 0 u [] = 0 from fun _ => rfl, show ∀ u, fr 0 u [] = 0 from fun _ => rfl, e, Int.pow_succ, Int.mul_assoc, Int.mul_comm 10]
    | cons b r =>
      have hb := hl b List.mem_cons_self
      have hb2 := (isD_iff b).1 hb
      obtain ⟨m, hm, he⟩ := ih (a * 10 + (b.toNat - 48)) r z (by omega) (fun c hc => hl c (List.mem_cons_of_mem _ hc))
      refine ⟨m, ?_, ?_⟩
      · rw [List.cons_append, List.take_succ_cons, key _ _ hb]
        exact hm
      · rw [he]
        rw [fr_cons, fr_add r (0 + _), ud_div]
        have e : (((a * 10 + (b.toNat - 48) : Nat)) : Int) = (a : Int) * 10 + ((b.toNat : Int) - 48) := by omega
        rw [e, Int.add_mul, show ud (k + 1) = 10 ^ k from rfl, Int.pow_succ, Int.mul_assoc, Int.mul_comm 10, Int.zero_add, Int.add_assoc]
theorem val_trim (ws : List UInt8) : val 0 (ws.dropWhile (· == 48)) = val 0 ws := by
  induction ws with
  | nil => rfl
  | cons b r ih =>
    rw [List.dropWhile_cons]
    by_cases h : b = 48
    · subst h
      rw [if_pos (by simp), ih]; rfl
    · rw [if_neg (by simpa using h)]
theorem val_pow (ws : List UInt8) : ∀ a : Nat, a * 10 ^ ws.length ≤ val a ws := by
  induction ws with
  | nil =>
    intro a
    show a * 10 ^ 0 ≤ a
    rw [Nat.pow_zero, Nat.mul_one]
    exact Nat.le_refl _
  | cons b r ih =>
    intro a
    unfold val
    refine Nat.le_trans ?_ (ih _)
    rw [List.length_cons, Nat.pow_succ, Nat.mul_comm _ 10, ← Nat.mul_assoc]
    exact Nat.mul_le_mul_right _ (by omega)
theorem val_big (ws : List UInt8) (hd : ∀ b ∈ ws, isD b = true) (h : 7 < (ws.dropWhile (· == 48)).length) : 9000000 < val 0 ws := by
  rw [← val_trim]
  have hne : ∀ b r, ws.dropWhile (· == 48) = b :: r → b ≠ 48 := by
    intro b r e hb
    have := List.head_dropWhile_not (p := (· == (48 : UInt8))) (l := ws) (by rw [e]; simp)
    simp only [e, List.head_cons, hb] at this
    simp at this
  cases e : ws.dropWhile (· == 48) with
  | nil => rw [e] at h; simp at h
  | cons b r =>
    have h48 := hne b r e
    have hb := (isD_iff b).1 (hd b ((List.dropWhile_sublist _).subset (by rw [e]; exact List.mem_cons_self)))
    have hb3 : b.toNat ≠ 48 := fun x => h48 (UInt8.toNat_inj.1 x)
    unfold val
    have := val_pow r (0 * 10 + (b.toNat - 48))
    rw [e, List.length_cons] at h
    have hp : 10 ^ 7 ≤ 10 ^ r.length := Nat.pow_le_pow_right (by decide) (by omega)
    have : 1 * 10 ^ r.length ≤ (0 * 10 + (b.toNat - 48)) * 10 ^ r.length := Nat.mul_le_mul_right _ (by omega)
    omega
theorem trimL (l : List UInt8) (c : UInt8) (hc : c.toNat < 128) (hl : l.length ≤ 2000000) : strings_TrimLeft.f (B l) (⟨#[c]⟩ : ByteArray) = some (B (l.dropWhile (· == c))) := by
  unfold strings_TrimLeft.f
  simp only [B_data, B_size]
  rw [if_pos ⟨hc, by omega⟩]; rfl
theorem right_some (n : Int) : impl_right.f n = some (if -9000000000000 ≤ n ∧ n ≤ 9000000000000 then (n, true) else (0, false)) := by
  unfold impl_right.f impl_DecOk.f impl_in.f
  by_cases h : n ≥ -9000000000000
  · rw [if_pos h]
    by_cases h2 : n ≤ 9000000000000
    · simp [h2]; omega
    · simp [h2]
  · rw [if_neg h]; simp; omega
theorem mill (ws rs : List UInt8) (hw : ∀ b ∈ ws, isD b = true) (hr : ∀ b ∈ rs, isD b = true) (lw : ws.length ≤ 1048576) (lr : rs.length ≤ 1048576) :
    impl_millionths.f (B ws) (B rs) = some (if (val 0 ws : Int) * 1000000 + fr 0 100000 rs ≤ 9000000000000 then ((val 0 ws : Int) * 1000000 + fr 0 100000 rs, true) else (0, false)) := by
  have hf := fr_bd rs 100000 hr (by omega)
  unfold impl_millionths.f
  rw [trimL ws 48 (by decide) (by omega), Option.bind_some, show (⟨#[48, 48, 48, 48, 48, 48]⟩ : ByteArray) = B [48, 48, 48, 48, 48, 48] from rfl, show (⟨#[48]⟩ : ByteArray) = B [48] from rfl]
  simp only [B_append, B_size]
  rw [if_pos (by omega), if_pos (by omega), if_pos (by first | omega | (simp; omega))]
  by_cases h7 : 7 < (ws.dropWhile (· == 48)).length
  · rw [if_pos (by omega)]
    have := val_big ws hw h7
    rw [if_neg (by omega)]
  · rw [if_neg (by omega), if_pos (by omega), B_extract]
    have e6 : (List.drop 0 (rs ++ [48, 48, 48, 48, 48, 48])).take (6 - 0) = (rs ++ List.replicate 6 48).take 6 := rfl
    rw [e6]
    simp only [B_append, B_size]
    have hl6 : ((rs ++ List.replicate 6 48).take 6).length ≤ 6 := by rw [List.length_take]; omega
    rw [if_pos (by simp at hl6 ⊢; omega)]
    obtain ⟨m, hm, he⟩ := pad 6 (val 0 ws) rs 6 (by omega) hr
    have hat : Lib.atoi ([48] ++ ws.dropWhile (· == 48) ++ (rs ++ List.replicate 6 48).take 6) = some (m : Int) := by
      have hdw : ∀ b ∈ ws.dropWhile (· == 48), isD b = true := fun b hb => hw b ((List.dropWhile_sublist _).subset hb)
      have h1 : Lib.decNat ([48] ++ ws.dropWhile (· == 48) ++ (rs ++ List.replicate 6 48).take 6) = some m := by
        unfold Lib.decNat
        rw [if_neg (by simp), List.append_assoc, dec_val [48] 0 (by decide), dec_val _ _ hdw]
        rw [show val 0 [(48 : UInt8)] = 0 from rfl, val_trim]
        exact hm
      rw [List.append_assoc, List.singleton_append] at h1 ⊢
      rw [atoi48, h1]; rfl
    have hA : strconv_Atoi.f (B ([48] ++ ws.dropWhile (· == 48) ++ (rs ++ List.replicate 6 48).take 6)) = some ((m : Int), none) := by
      unfold strconv_Atoi.f
      rw [B_size, if_pos (by simp at hl6 ⊢; omega), B_data, hat]
    rw [hA, Option.bind_some]
    simp only []
    have he2 : (m : Int) = (val 0 ws : Int) * 1000000 + fr 0 100000 rs := by rw [he]; rfl
    rw [right_some, Option.bind_some, he2]
    by_cases hn : (val 0 ws : Int) * 1000000 + fr 0 100000 rs ≤ 9000000000000
    · rw [if_pos ⟨by omega, hn⟩, if_pos hn]
    · rw [if_neg (fun x => hn x.2), if_neg hn]
theorem impl_j4 (e : Nat) (neg : Bool) (ws rs : List UInt8) (hw : ∀ b ∈ ws, isD b = true) (hr : ∀ b ∈ rs, isD b = true) (lw : ws.length ≤ 1048576) (lr : rs.length ≤ 1048576) :
    impl_DecFront.j3v (e : Int) neg (B ws) (B rs) = some (if ws = [] ∧ rs = [] then (0, 0) else if (val 0 ws : Int) * 1000000 + fr 0 100000 rs ≤ 9000000000000 then (if neg then -((val 0 ws : Int) * 1000000 + fr 0 100000 rs) else (val 0 ws : Int) * 1000000 + fr 0 100000 rs, (e : Int)) else (0, 0)) := by
  have hf := fr_bd rs 100000 hr (by omega)
  rw [impl_DecFront.j3v_eq, B_toList, B_toList]
  have main : ¬ (ws = [] ∧ rs = []) → impl_DecFront.j4v (e : Int) neg (B ws) (B rs) false = some (if (val 0 ws : Int) * 1000000 + fr 0 100000 rs ≤ 9000000000000 then (if neg then -((val 0 ws : Int) * 1000000 + fr 0 100000 rs) else (val 0 ws : Int) * 1000000 + fr 0 100000 rs, (e : Int)) else (0, 0)) := by
    intro _
    rw [impl_DecFront.j4v_eq, if_neg (by simp), mill ws rs hw hr lw lr, Option.bind_some]
    by_cases hn : (val 0 ws : Int) * 1000000 + fr 0 100000 rs ≤ 9000000000000
    · simp only [if_pos hn, if_true]
      cases neg
      · simp
      · rw [if_pos rfl, wrap_in (by omega) (by omega)]; simp
    · simp only [if_neg hn]; simp
  by_cases h1 : ws = []
  · rw [if_pos h1]
    by_cases h2 : rs = []
    · rw [if_pos ⟨h1, h2⟩, impl_DecFront.j4v_eq]; simp [h2]
    · rw [if_neg (fun x => h2 x.2), show (rs == ([] : List UInt8)) = false by simpa using h2]
      exact main (fun x => h2 x.2)
  · rw [if_neg h1, if_neg (fun x => h1 x.1)]
    exact main (fun x => h1 x.1)
theorem impl_tail (l : List UInt8) (hl : l.length ≤ 1048576) (q : Nat) (hq : q ≤ l.length) (neg : Bool) : impl_DecFront.j1v (B l) (q : Int) neg = some (tailOf l q neg) := by
  have hr := run_le l q hq
  have hall := run_all l q
  rw [impl_DecFront.j1v_eq, digs l hl q hq, Option.bind_some, if_pos (by omega), wrap_in (by omega) (by omega), if_pos (by omega), if_pos (by rw [B_size]; omega), B_extract]
  have ew : (l.drop (q : Int).toNat).take (((q : Int) + ((run l q).length : Int)).toNat - (q : Int).toNat) = run l q := by
    rw [show (q : Int).toNat = q by omega, show ((q : Int) + ((run l q).length : Int)).toNat - q = (run l q).length by omega]
    exact run_take l q
  rw [ew]
  unfold tailOf
  simp only []
  generalize hw : run l q = ws at *
  rw [show (q : Int) + (ws.length : Int) = ((q + ws.length : Nat) : Int) by omega]
  generalize he : q + ws.length = e at *
  have hnone : restOf l e = [] → impl_DecFront.j3v (e : Int) neg (B ws) (⟨#[]⟩ : ByteArray) = some (if ws = [] ∧ restOf l e = [] then (0, 0) else if (val 0 ws : Int) * 1000000 + fr 0 100000 (restOf l e) ≤ 9000000000000 then (if neg then -((val 0 ws : Int) * 1000000 + fr 0 100000 (restOf l e)) else (val 0 ws : Int) * 1000000 + fr 0 100000 (restOf l e), ((if restOf l e = [] then e else e + 1 + (restOf l e).length : Nat) : Int)) else (0, 0)) := by
    intro h0
    rw [show (⟨#[]⟩ : ByteArray) = B [] from rfl, impl_j4 e neg ws [] hall (by simp) (by omega) (by simp), h0, if_pos rfl]
  by_cases h1 : e < l.length
  · rw [if_pos (by rw [B_size]; omega), if_pos (by omega), B_bt l e h1]
    have hdot := byte_is l[e] 46 46 rfl
    by_cases hd : l[e] = 46
    · have hrest : restOf l e = run l (e + 1) := by unfold restOf; rw [List.getElem?_eq_getElem h1, hd, if_pos rfl]
      rw [show (((l[e].toNat : Nat) : Int) == 46) = true by simpa using hdot.2 hd, impl_DecFront.j2v_eq, if_pos rfl, wrap_in (n := (e : Int) + 1) (by omega) (by omega), show (e : Int) + 1 = ((e + 1 : Nat) : Int) by omega, digs l hl (e + 1) (by omega), Option.bind_some]
      have hr2 := run_le l (e + 1) (by omega)
      by_cases hz : run l (e + 1) = []
      · rw [hz, if_neg (by simp)]
        exact hnone (by rw [hrest, hz])
      · have hlen : 0 < (run l (e + 1)).length := List.length_pos_iff.2 hz
        rw [if_pos (by omega), if_pos (by omega), wrap_in (n := ((e + 1 : Nat) : Int) + ((run l (e + 1)).length : Int)) (by omega) (by omega), if_pos (by omega), if_pos (by rw [B_size]; omega), B_extract]
        have er : (l.drop ((e + 1 : Nat) : Int).toNat).take ((((e + 1 : Nat) : Int) + ((run l (e + 1)).length : Int)).toNat - ((e + 1 : Nat) : Int).toNat) = run l (e + 1) := by
          rw [show ((e + 1 : Nat) : Int).toNat = e + 1 by omega, show (((e + 1 : Nat) : Int) + ((run l (e + 1)).length : Int)).toNat - (e + 1) = (run l (e + 1)).length by omega]
          exact run_take l (e + 1)
        rw [er, wrap_in (n := 1 + ((run l (e + 1)).length : Int)) (by omega) (by omega), wrap_in (by omega) (by omega), show (e : Int) + (1 + ((run l (e + 1)).length : Int)) = ((e + 1 + (run l (e + 1)).length : Nat) : Int) by omega]
        rw [impl_j4 _ neg ws _ hall (run_all _ _) (by omega) (by omega), hrest, if_neg hz]
    · rw [show (((l[e].toNat : Nat) : Int) == 46) = false by simpa using fun x => hd (hdot.1 x), impl_DecFront.j2v_eq, if_neg (by simp)]
      exact hnone (by unfold restOf; rw [List.getElem?_eq_getElem h1, if_neg (by simpa using hd)])
  · rw [if_neg (by rw [B_size]; omega), impl_DecFront.j2v_eq, if_neg (by simp)]
    refine hnone ?_
    unfold restOf
    rw [List.getElem?_eq_none (by omega), if_neg (by simp)]

/-! ### blanks and sign -/
def blanks (l : List UInt8) : Nat := (l.takeWhile (· == 32)).length
def frontOf (l : List UInt8) : Int × Int := tailOf l (if l[blanks l]? = some 45 ∨ l[blanks l]? = some 43 then blanks l + 1 else blanks l) (l[blanks l]? == some 45)
theorem blanks_le (l : List UInt8) : blanks l ≤ l.length := (List.takeWhile_sublist _).length_le
theorem blanks_drop (l : List UInt8) : (l.dropWhile (· == 32)).length = l.length - blanks l := by
  have := congrArg List.length (List.takeWhile_append_dropWhile (p := (· == (32 : UInt8))) (l := l))
  rw [List.length_append] at this
  unfold blanks; omega
theorem spec_blank (l : List UInt8) (hl : l.length ≤ 1048576) (d : Nat) : ∀ i : Nat, l.length - i ≤ d → i ≤ l.length → spec_DecFront.l0v (B l) (i : Int) = spec_DecFront.j1v (B l) ((i + ((l.drop i).takeWhile (· == 32)).length : Nat) : Int) := by
  induction d with
  | zero =>
    intro i h1 h2
    rw [spec_DecFront.l0v_eq, if_neg (by rw [B_size]; omega), List.drop_eq_nil_of_le (by omega)]
    simp
  | succ d ih =>
    intro i h1 h2
    rw [spec_DecFront.l0v_eq]
    by_cases h : i < l.length
    · rw [if_pos (by rw [B_size]; omega), if_pos (by omega), B_bt l i h, List.drop_eq_getElem_cons h, List.takeWhile_cons]
      have hb := byte_is l[i] 32 32 rfl
      by_cases hd : l[i] = 32
      · rw [if_pos (hb.2 hd), wrap_in (by omega) (by omega), show (i : Int) + 1 = ((i + 1 : Nat) : Int) by omega, ih (i + 1) (by omega) (by omega), if_pos (by simpa using hd)]
        simp [Nat.add_assoc, Nat.add_comm]
      · rw [if_neg (fun x => hd (hb.1 x)), if_neg (by simpa using hd)]; simp
    · rw [if_neg (by rw [B_size]; omega), List.drop_eq_nil_of_le (by omega)]
      simp
theorem front_spec (l : List UInt8) (hl : l.length ≤ 1048576) : spec_DecFront.fv (B l) = some (frontOf l) := by
  rw [spec_DecFront.fv_eq]
  have h0 := spec_blank l hl _ 0 (Nat.le_refl _) (by omega)
  rw [List.drop_zero, Nat.zero_add] at h0
  have h0' : spec_DecFront.l0v (B l) 0 = spec_DecFront.j1v (B l) ((blanks l : Nat) : Int) := h0
  rw [h0', spec_DecFront.j1v_eq]
  have hp := blanks_le l
  unfold frontOf
  generalize blanks l = p at *
  by_cases h : p < l.length
  · rw [if_pos (by rw [B_size]; omega), if_pos (by omega), B_bt l p h, List.getElem?_eq_getElem h, spec_DecFront.j2v_eq, if_pos (by rw [B_size]; omega), if_pos (by omega), B_bt l p h]
    have h45 := byte_is l[p] 45 45 rfl
    have h43 := byte_is l[p] 43 43 rfl
    have e1 : wrap64 ((p : Int) + 1) = ((p + 1 : Nat) : Int) := by rw [wrap_in (by omega) (by omega)]; omega
    by_cases h1 : l[p] = 45
    · rw [if_pos (h45.2 h1), spec_DecFront.j3v_eq, if_pos rfl, e1, spec_tail l hl _ (by omega), if_pos (.inl (by rw [h1]))]
      simp [h1]
    · rw [if_neg (fun x => h1 (h45.1 x))]
      by_cases h2 : l[p] = 43
      · rw [show (((l[p].toNat : Nat) : Int) == 43) = true by simpa using h43.2 h2, spec_DecFront.j3v_eq, if_pos rfl, e1, spec_tail l hl _ (by omega), if_pos (.inr (by rw [h2]))]
        simp [h2]
      · rw [show (((l[p].toNat : Nat) : Int) == 43) = false by simpa using fun x => h2 (h43.1 x), spec_DecFront.j3v_eq, if_neg (by simp), spec_tail l hl _ hp, if_neg (by simp [h1, h2]), show (some l[p] == some (45 : UInt8)) = false by simpa using h1, show (((l[p].toNat : Nat) : Int) == 45) = false by simpa using fun x => h1 (h45.1 x)]
  · rw [if_neg (by rw [B_size]; omega), spec_DecFront.j2v_eq, if_neg (by rw [B_size]; omega), spec_DecFront.j3v_eq, if_neg (by simp), spec_tail l hl _ hp, List.getElem?_eq_none (by omega)]
    simp
theorem front_impl (l : List UInt8) (hl : l.length ≤ 1048576) : impl_DecFront.fv (B l) = some (frontOf l) := by
  rw [impl_DecFront.fv_eq, trimL l 32 (by decide) (by omega), Option.bind_some, B_size, B_size, blanks_drop]
  have hp := blanks_le l
  unfold frontOf
  generalize blanks l = p at *
  rw [wrap_in (by omega) (by omega), show ((l.length : Int) - ((l.length - p : Nat) : Int)) = (p : Int) by omega]
  by_cases h : p < l.length
  · rw [if_pos (by omega), if_pos (by omega), B_bt l p h, List.getElem?_eq_getElem h]
    have h45 := byte_is l[p] 45 45 rfl
    have h43 := byte_is l[p] 43 43 rfl
    have e1 : wrap64 ((p : Int) + 1) = ((p + 1 : Nat) : Int) := by rw [wrap_in (by omega) (by omega)]; omega
    by_cases h2 : l[p] = 43
    · rw [if_pos (h43.2 h2), impl_DecFront.j0v_eq, if_pos rfl, if_pos (by omega), if_pos (by rw [B_size]; omega), e1, B_bt l p h, impl_tail l hl _ (by omega), if_pos (.inr (by rw [h2]))]
      simp [h2]
    · rw [if_neg (fun x => h2 (h43.1 x))]
      by_cases h1 : l[p] = 45
      · rw [show (((l[p].toNat : Nat) : Int) == 45) = true by simpa using h45.2 h1, impl_DecFront.j0v_eq, if_pos rfl, if_pos (by omega), if_pos (by rw [B_size]; omega), e1, B_bt l p h, impl_tail l hl _ (by omega), if_pos (.inl (by rw [h1]))]
        simp [h1]
      · rw [show (((l[p].toNat : Nat) : Int) == 45) = false by simpa using fun x => h1 (h45.1 x), impl_DecFront.j0v_eq, if_neg (by simp), impl_tail l hl _ hp, if_neg (by simp [h1, h2]), show (some l[p] == some (45 : UInt8)) = false by simpa using h1]
  · rw [if_neg (by omega), impl_DecFront.j0v_eq, if_neg (by simp), impl_tail l hl _ hp, List.getElem?_eq_none (by omega)]
    simp

/-! ### nothing but blanks behind it -/
theorem tail_bd (l : List UInt8) (q : Nat) (hq : q ≤ l.length) (neg : Bool) : 0 ≤ (tailOf l q neg).2 ∧ (tailOf l q neg).2 ≤ (l.length : Int) := by
  have hr := run_le l q hq
  unfold tailOf
  simp only []
  generalize hw : run l q = ws at *
  generalize he : q + ws.length = e at *
  by_cases h1 : ws = [] ∧ restOf l e = []
  · rw [if_pos h1]; exact ⟨Int.le_refl _, by omega⟩
  · rw [if_neg h1]
    split
    · simp only []
      by_cases h2 : restOf l e = []
      · rw [if_pos h2]; omega
      · rw [if_neg h2]
        have h3 : restOf l e = run l (e + 1) ∧ e < l.length := by
          unfold restOf at h2 ⊢
          by_cases h4 : l[e]? = some 46
          · rw [if_pos h4]
            refine ⟨rfl, ?_⟩
            by_cases h5 : e < l.length
            · exact h5
            · rw [List.getElem?_eq_none (by omega)] at h4; simp at h4
          · rw [if_neg h4] at h2; exact absurd rfl h2
        have := run_le l (e + 1) (by omega)
        rw [h3.1]; omega
    · exact ⟨Int.le_refl _, by simp only []; omega⟩
theorem front_bd (l : List UInt8) : 0 ≤ (frontOf l).2 ∧ (frontOf l).2 ≤ (l.length : Int) := by
  unfold frontOf
  refine tail_bd l _ ?_ _
  have hb := blanks_le l
  split
  · rename_i h
    by_cases h5 : blanks l < l.length
    · omega
    · rw [List.getElem?_eq_none (by omega)] at h; simp at h
  · exact hb
theorem dw_nil (p : UInt8 → Bool) (l : List UInt8) : l.dropWhile p = [] ↔ ∀ b ∈ l, p b = true := by
  induction l with
  | nil => simp
  | cons a r ih =>
    rw [List.dropWhile_cons]
    by_cases h : p a = true
    · rw [if_pos h, ih]; simp [h]
    · rw [if_neg h]; simp [h]
theorem trim_nil (l : List UInt8) (c : UInt8) : Lib.trimB l c = [] ↔ ∀ b ∈ l, b = c := by
  unfold Lib.trimB Lib.trimLeftB Lib.trimRightB
  rw [dw_nil]
  constructor
  · intro h
    have h1 : l.reverse.dropWhile (· == c) = [] := by
      apply Classical.byContradiction
      intro hne
      have h2 := List.head_dropWhile_not (p := (· == c)) (l := l.reverse) hne
      have h3 := h _ (List.mem_reverse.2 (List.head_mem hne))
      rw [h3] at h2; simp at h2
    intro b hb
    have := (dw_nil _ _).1 h1 b (List.mem_reverse.2 hb)
    simpa using this
  · intro h b hb
    rw [List.mem_reverse] at hb
    have := h b (List.mem_reverse.1 ((List.dropWhile_sublist _).subset hb))
    simp [this]
theorem looks_loop (l : List UInt8) (hl : l.length ≤ 1048576) (v : Int) (d : Nat) : ∀ i : Nat, l.length - i ≤ d → i ≤ l.length → spec_DecLooks.l0v (B l) v (i : Int) = some (if (l.drop i).all (· == 32) then (v, true) else (0, false)) := by
  induction d with
  | zero =>
    intro i h1 h2
    rw [spec_DecLooks.l0v_eq, if_neg (by rw [B_size]; omega), List.drop_eq_nil_of_le (by omega)]
    simp
  | succ d ih =>
    intro i h1 h2
    rw [spec_DecLooks.l0v_eq]
    by_cases h : i < l.length
    · rw [if_pos (by rw [B_size]; omega), if_pos (by omega), B_bt l i h, List.drop_eq_getElem_cons h, List.all_cons]
      have hb := byte_is l[i] 32 32 rfl
      by_cases hd : l[i] = 32
      · rw [if_pos (hb.2 hd), wrap_in (by omega) (by omega), show (i : Int) + 1 = ((i + 1 : Nat) : Int) by omega, ih (i + 1) (by omega) (by omega)]
        simp [hd]
      · rw [if_neg (fun x => hd (hb.1 x))]
        simp [hd]
    · rw [if_neg (by rw [B_size]; omega), List.drop_eq_nil_of_le (by omega)]
      simp
def looksOf (l : List UInt8) : Int × Bool := if (frontOf l).2 = 0 then (0, false) else if (l.drop (frontOf l).2.toNat).all (· == 32) then ((frontOf l).1, true) else (0, false)
theorem looks_spec (l : List UInt8) (hl : l.length ≤ 1048576) : spec_DecLooks.fv (B l) = some (looksOf l) := by
  have hb := front_bd l
  rw [spec_DecLooks.fv_eq, front_spec l hl, Option.bind_some]
  unfold looksOf
  by_cases h : (frontOf l).2 = 0
  · rw [if_pos h, if_pos h]
  · rw [if_neg h, if_neg h]
    obtain ⟨i, hi⟩ : ∃ i : Nat, (frontOf l).2 = i := ⟨(frontOf l).2.toNat, by omega⟩
    rw [hi, looks_loop l hl _ _ i (Nat.le_refl _) (by omega), Int.toNat_natCast]
theorem looks_impl (l : List UInt8) (hl : l.length ≤ 1048576) : impl_DecLooks.fv (B l) = some (looksOf l) := by
  have hb := front_bd l
  rw [impl_DecLooks.fv_eq, front_impl l hl, Option.bind_some]
  unfold looksOf
  by_cases h : (frontOf l).2 = 0
  · rw [if_pos h, if_pos h]
  · rw [if_neg h, if_neg h, if_pos hb.1, B_size, if_pos hb.2, B_extract, List.take_of_length_le (by simp)]
    have ht : ∀ x : List UInt8, x.length ≤ 1048576 → strings_Trim.f (B x) (⟨#[32]⟩ : ByteArray) = some (B (Lib.trimB x 32)) := by
      intro x hx
      unfold strings_Trim.f
      simp only [B_data, B_size]
      rw [if_pos ⟨by decide, by omega⟩]; rfl
    rw [ht _ (by simp; omega), Option.bind_some, B_toList]
    by_cases h2 : ∀ b ∈ l.drop (frontOf l).2.toNat, b = 32
    · rw [if_pos ((trim_nil _ _).2 h2), if_pos (by simpa using h2)]
    · rw [if_neg (fun x => h2 ((trim_nil _ _).1 x)), if_neg (by simpa using h2)]

theorem vok_dec_spec (a : Int) : spec_DecOk.f a = some (decide (-9000000000000 ≤ a ∧ a ≤ 9000000000000)) := by
  unfold spec_DecOk.f spec_l1In.f
  by_cases h : a ≥ -9000000000000
  · rw [if_pos h]; simp [h]
  · rw [if_neg h]; simp; omega
theorem vok_dec_impl (a : Int) : impl_DecOk.f a = some (decide (-9000000000000 ≤ a ∧ a ≤ 9000000000000)) := by
  unfold impl_DecOk.f impl_in.f
  by_cases h : a ≥ -9000000000000
  · rw [if_pos h]; simp [h]
  · rw [if_neg h]; simp; omega
def valOkOf (a b : Int) (l : List UInt8) : Bool :=
  decide (-9000000000000 ≤ b ∧ b ≤ 9000000000000) && decide (l.length ≤ 300) &&
  (if a = 0 then decide (b = 0) && decide (l = []) else if a = 1 then decide (l = []) else if a = 2 then decide (b = 0) else if a = 3 then (looksOf l).2 && decide ((looksOf l).1 = b) else false)
theorem valok_impl (a b : Int) (l : List UInt8) (hl : l.length ≤ 1048576) : impl_ValOk.fv a b (B l) = some (valOkOf a b l) := by
  rw [impl_ValOk.fv_eq, vok_dec_impl, Option.bind_some, B_size]
  unfold valOkOf
  by_cases hd : -9000000000000 ≤ b ∧ b ≤ 9000000000000
  · rw [if_pos (by simpa using hd)]
    by_cases h3 : l.length ≤ 300
    · rw [show decide ((l.length : Int) > 300) = false by simp; omega, impl_ValOk.j0v_eq, if_neg (by simp), B_toList]
      rw [decide_eq_true hd, decide_eq_true h3]
      by_cases h0 : a = 0
      · rw [if_pos h0, if_pos h0]
        by_cases hb : b = 0 <;> simp [hb]
        cases l <;> rfl
      · rw [if_neg h0, if_neg h0]
        by_cases h1 : a = 1
        · rw [if_pos h1, if_pos h1]; cases l <;> rfl
        · rw [if_neg h1, if_neg h1]
          by_cases h2 : a = 2
          · rw [if_pos h2, if_pos h2]
            by_cases hb : b = 0 <;> simp [hb]
          · rw [if_neg h2, if_neg h2]
            by_cases h4 : a = 3
            · rw [if_pos h4, if_pos h4, looks_impl l hl, Option.bind_some]
              cases (looksOf l).2 <;> first | (simp; done) | (simp; rw [Bool.eq_iff_iff]; simp)
            · rw [if_neg h4, if_neg h4]; rfl
    · rw [show decide ((l.length : Int) > 300) = true by simp; omega, impl_ValOk.j0v_eq, if_pos rfl]
      simp [h3]
  · rw [if_neg (by simpa using hd), impl_ValOk.j0v_eq, if_pos rfl, decide_eq_false hd]; rfl
theorem valok_spec (a b : Int) (l : List UInt8) (hl : l.length ≤ 1048576) : spec_ValOk.fv a b (B l) = some (valOkOf a b l) := by
  have hin : spec_l1In.f a 0 3 = some (decide (0 ≤ a ∧ a ≤ 3)) := by
    unfold spec_l1In.f
    by_cases h : a ≥ 0
    · rw [if_pos h]; simp [h]
    · rw [if_neg h]; simp; omega
  rw [spec_ValOk.fv_eq, hin, Option.bind_some, vok_dec_spec, Option.bind_some, B_size]
  unfold valOkOf
  by_cases ha : 0 ≤ a ∧ a ≤ 3
  · rw [if_pos (by simpa using ha)]
    by_cases hd : -9000000000000 ≤ b ∧ b ≤ 9000000000000
    · rw [if_pos (by simpa using hd)]
      by_cases h3 : l.length ≤ 300
      · rw [show decide ((l.length : Int) > 300) = false by simp; omega, spec_ValOk.j0v_eq, if_neg (by simp), B_toList]
        rw [decide_eq_true hd, decide_eq_true h3]
        by_cases h0 : a = 0
        · rw [if_pos h0, if_pos h0]
          by_cases hb : b = 0 <;> simp [hb]
          cases l <;> rfl
        · rw [if_neg h0, if_neg h0]
          by_cases h1 : a = 1
          · rw [if_pos h1, if_pos h1]; cases l <;> rfl
          · rw [if_neg h1, if_neg h1]
            by_cases h2 : a = 2
            · rw [if_pos h2, if_pos h2]
              by_cases hb : b = 0 <;> simp [hb]
            · rw [if_neg h2, if_neg h2, if_pos (show a = 3 by omega), looks_spec l hl, Option.bind_some]
              cases (looksOf l).2 <;> first | (simp; done) | (simp; rw [Bool.eq_iff_iff]; simp)
      · rw [show decide ((l.length : Int) > 300) = true by simp; omega, spec_ValOk.j0v_eq, if_pos rfl]
        simp [h3]
    · rw [if_neg (by simpa using hd), spec_ValOk.j0v_eq, if_pos rfl, decide_eq_false hd]; rfl
  · rw [if_neg (by simpa using ha), spec_ValOk.j0v_eq, if_pos rfl, if_neg (by omega), if_neg (by omega), if_neg (by omega), if_neg (by omega), Bool.and_false]

/-! ### which of two texts comes first -/
theorem less_cons (a b : UInt8) (x y : List UInt8) : Op.bytesLess (a :: x) (b :: y) = (decide (a < b) || (a == b && Op.bytesLess x y)) := rfl
theorem cmp_bytes : ∀ x y : List UInt8, Lib.compareBytes x y = if Op.bytesLess x y = true then -1 else if Op.bytesLess y x = true then 1 else 0
  | [], [] => rfl
  | [], _ :: _ => rfl
  | _ :: _, [] => rfl
  | a :: x, b :: y => by
    rw [Lib.compareBytes, less_cons, less_cons, cmp_bytes x y]
    by_cases h1 : a < b
    · rw [if_pos h1]; simp [h1]
    · by_cases h2 : b < a
      · rw [if_neg h1, if_pos h2]
        have hne : ¬ a = b := by intro e; subst e; exact h1 h2
        simp [h1, h2, hne]
      · have e : a = b := by
          rw [← UInt8.toNat_inj]
          have := mt UInt8.lt_iff_toNat_lt.2 h1
          have := mt UInt8.lt_iff_toNat_lt.2 h2
          omega
        subst e
        rw [if_neg h1, if_neg h1]
        simp [h1]
theorem less_more (x y : List UInt8) : (!(Op.bytesLess x y) && !(x == y)) = Op.bytesLess y x := by
  induction x generalizing y with
  | nil => cases y <;> rfl
  | cons a x ih =>
    cases y with
    | nil => rfl
    | cons b y =>
      rw [less_cons, less_cons, ← ih y]
      by_cases h1 : a < b
      · have h2 : ¬ b < a := fun h => by rw [UInt8.lt_iff_toNat_lt] at h h1; omega
        have hne : ¬ b = a := by intro e; subst e; exact h2 h1
        simp [h1, h2, hne]
      · by_cases h2 : b < a
        · have hne : ¬ a = b := by intro e; subst e; exact h1 h2
          have hne2 : ¬ b = a := fun e => hne e.symm
          simp [h1, h2, hne, hne2]
        · have e : a = b := by
            rw [← UInt8.toNat_inj]
            have := mt UInt8.lt_iff_toNat_lt.2 h1
            have := mt UInt8.lt_iff_toNat_lt.2 h2
            omega
          subst e
          simp [h1]

/-! ### a state that is right -/
def vok (v : S26) : Bool := valOkOf v.f0 v.f1 v.f2.data.toList
theorem vok_spec (v : S26) (h : v.f2.size ≤ 1048576) : spec_ValOk.fv v.f0 v.f1 v.f2 = some (vok v) := by
  have := valok_spec v.f0 v.f1 v.f2.data.toList (by rw [← B_size, B_self]; exact h)
  rwa [B_self] at this
theorem vok_impl (v : S26) (h : v.f2.size ≤ 1048576) : impl_ValOk.fv v.f0 v.f1 v.f2 = some (vok v) := by
  have := valok_impl v.f0 v.f1 v.f2.data.toList (by rw [← B_size, B_self]; exact h)
  rwa [B_self] at this
theorem so_in_spec (a b c : Int) : spec_l1In.f a b c = some (decide (b ≤ a ∧ a ≤ c)) := by
  unfold spec_l1In.f
  by_cases h : a ≥ b
  · rw [if_pos h]; simp [h]
  · rw [if_neg h]; simp; omega
theorem so_in_impl (a b c : Int) : impl_in.f a b c = some (decide (b ≤ a ∧ a ≤ c)) := by
  unfold impl_in.f
  by_cases h : a ≥ b
  · rw [if_pos h]; simp [h]
  · rw [if_neg h]; simp; omega
def ahead (p c : S84) : Bool := if p.f0 < c.f0 then true else if p.f0 = c.f0 then Op.bytesLess p.f1.toList c.f1.toList else false
theorem ahead_spec (p c : S84) : spec_l11Less.f p.f0 p.f1 p.f2.f0 p.f2.f1 p.f2.f2 c.f0 c.f1 = some (ahead p c) := by
  unfold spec_l11Less.f ahead
  split
  · rfl
  · split <;> rfl
theorem ahead_impl (p c : S84) : ∃ t, impl_cellBefore.f p.f0 p.f1 p.f2.f0 p.f2.f1 p.f2.f2 c.f0 c.f1 c.f2.f0 c.f2.f1 c.f2.f2 = some t ∧ (t ≥ 0 ↔ ahead p c = false) := by
  unfold impl_cellBefore.f ahead
  by_cases h : p.f0 < c.f0
  · rw [if_pos h, if_pos h]; exact ⟨_, rfl, by simp⟩
  · rw [if_neg h, if_neg h]
    by_cases h2 : p.f0 > c.f0
    · rw [if_pos h2, if_neg (by omega)]; exact ⟨_, rfl, by simp⟩
    · rw [if_neg h2, if_pos (by omega)]
      unfold strings_Compare.f
      rw [Option.bind_some, ← Lib.toList_data, ← Lib.toList_data, cmp_bytes]
      refine ⟨_, rfl, ?_⟩
      cases h3 : Op.bytesLess p.f1.toList c.f1.toList
      · rw [if_neg (by simp)]
        split <;> simp
      · rw [if_pos rfl]; simp
theorem regs_both (n m : Int) (l : List S26) (y : List S84) (p q : Int) (hl : l.length ≤ 1048576) (hs : ∀ v ∈ l, v.f2.size ≤ 1048576) (d : Nat) : ∀ i : Nat, l.length - i = d → i ≤ l.length →
    ∃ (c : Bool) (t : Int), spec_StateOk.l0v n m i l y p q = (if c = true then spec_StateOk.l1v n m 0 l y p q else some false) ∧ impl_Val_71_188.l0v l l.length i = some t ∧ (t ≥ 0 ↔ c = false) := by
  induction d with
  | zero =>
    intro i h1 h2
    refine ⟨true, -1, ?_, ?_, by simp⟩
    · rw [spec_StateOk.l0v_eq, if_neg (by omega), if_pos rfl]
    · rw [impl_Val_71_188.l0v_eq, if_neg (by omega)]
  | succ d ih =>
    intro i h1 h2
    have hi : i < l.length := by omega
    have hw : wrap64 ((i : Int) + 1) = ((i + 1 : Nat) : Int) := by rw [wrap_in (by omega) (by omega)]; omega
    have hv := hs l[i] (List.getElem_mem hi)
    rw [spec_StateOk.l0v_eq, impl_Val_71_188.l0v_eq, if_pos (by omega), if_pos (by omega), if_pos (by omega), if_pos (by omega), if_pos (by omega), rdin26 l i hi, vok_spec _ hv, impl_StateOk_1.fv_eq, vok_impl _ hv]
    simp only [Option.bind_some]
    cases h : vok l[i]
    · exact ⟨false, (i : Int), by simp, by simp, by simp⟩
    · rw [if_pos rfl, if_neg (by simp), hw]
      exact ih (i + 1) (by omega) (by omega)
def ends (n : Int) (l : List S26) (y : List S84) (p q : Int) : Bool := decide ((l.length : Int) = n) && (decide ((y.length : Int) ≤ 40) && (decide (0 ≤ p ∧ p ≤ 1000000) && decide (0 ≤ q ∧ q ≤ 7)))
theorem cells_both (n m : Int) (l : List S26) (y : List S84) (p q : Int) (hl : y.length ≤ 1048576) (hs : ∀ v ∈ y, v.f2.f2.size ≤ 1048576) (d : Nat) : ∀ i : Nat, y.length - i = d → i ≤ y.length →
    ∃ b : Bool, spec_StateOk.l1v n m i l y p q = some (b && ends n l y p q) ∧ impl_StateOk.l0v m y y.length i l y p q = some b := by
  induction d with
  | zero =>
    intro i h1 h2
    refine ⟨true, ?_, ?_⟩
    · rw [spec_StateOk.l1v_eq, if_neg (by omega), so_in_spec, so_in_spec]
      unfold ends
      by_cases a1 : (l.length : Int) = n
      · rw [if_pos a1]
        by_cases a2 : (y.length : Int) ≤ 40
        · rw [if_pos a2, Option.bind_some]
          by_cases a3 : 0 ≤ p ∧ p ≤ 1000000
          · rw [if_pos (by simpa using a3), Option.bind_some]; simp [a1, a2, a3]
          · rw [if_neg (by simpa using a3)]; simp [a3]
        · rw [if_neg a2]; simp [a2]
      · rw [if_neg a1]; simp [a1]
    · rw [impl_StateOk.l0v_eq, if_neg (by omega)]
  | succ d ih =>
    intro i h1 h2
    have hi : i < y.length := by omega
    have hw : wrap64 ((i : Int) + 1) = ((i + 1 : Nat) : Int) := by rw [wrap_in (by omega) (by omega)]; omega
    have hv := hs y[i] (List.getElem_mem hi)
    have hno : ∃ b : Bool, some false = some (b && ends n l y p q) ∧ some false = some b := ⟨false, rfl, rfl⟩
    have hgo := ih (i + 1) (by omega) (by omega)
    rw [spec_StateOk.l1v_eq, impl_StateOk.l0v_eq]
    simp only [eq_true (show (i : Int) < (y.length : Int) by omega), eq_true (show (0 : Int) ≤ (i : Int) by omega), if_true, rdin84 y i hi]
    by_cases c1 : y[i].f0 < 0
    · rw [if_pos c1, if_pos c1]; exact hno
    · rw [if_neg c1, if_neg c1]
      by_cases c2 : y[i].f0 ≥ m
      · rw [if_pos c2, if_pos c2]; exact hno
      · rw [if_neg c2, if_neg c2]
        by_cases c3 : (y[i].f1.size : Int) > 300
        · rw [if_pos c3, if_pos c3]; exact hno
        · rw [if_neg c3, if_neg c3, vok_spec _ hv, vok_impl _ hv]
          simp only [Option.bind_some]
          cases c4 : vok y[i].f2
          · rw [if_neg (by simp), if_neg (by simp)]; exact hno
          · rw [if_pos rfl, if_pos rfl, hw]
            by_cases c5 : (i : Int) > 0
            · have hj : i - 1 < y.length := by omega
              have hw2 : wrap64 ((i : Int) - 1) = ((i - 1 : Nat) : Int) := by rw [wrap_in (by omega) (by omega)]; omega
              obtain ⟨t, e1, e2⟩ := ahead_impl y[i - 1] y[i]
              rw [if_pos c5, if_pos c5, hw2]
              simp only [eq_true (show ((i - 1 : Nat) : Int) < (y.length : Int) by omega), eq_true (show (0 : Int) ≤ ((i - 1 : Nat) : Int) by omega), if_true, rdin84 y (i - 1) hj, ahead_spec, e1, Option.bind_some]
              cases c6 : ahead y[i - 1] y[i]
              · rw [if_neg (by simp), if_pos (e2.2 c6)]; exact hno
              · rw [if_pos rfl, if_neg (fun x => by have := e2.1 x; rw [c6] at this; simp at this)]; exact hgo
            · rw [if_neg c5, if_neg c5]; exact hgo
theorem stateok_both (n m : Int) (l : List S26) (y : List S84) (p q : Int) (hl : l.length ≤ 1048576) (hs : ∀ v ∈ l, v.f2.size ≤ 1048576) (hl2 : y.length ≤ 1048576) (hs2 : ∀ v ∈ y, v.f2.f2.size ≤ 1048576) : ∃ r, spec_StateOk.fv l y p q n m = some r ∧ impl_StateOk.fv l y p q n m = some r := by
  obtain ⟨c, t, e1, e2, e3⟩ := regs_both n m l y p q hl hs _ 0 rfl (by omega)
  obtain ⟨b, b1, b2⟩ := cells_both n m l y p q hl2 hs2 _ 0 rfl (by omega)
  have e2' : impl_Val_71_187.fv l = some (decide (t ≥ 0)) := by
    rw [impl_Val_71_187.fv_eq, impl_Val_71_188.fv_eq]
    rw [show (0 : Int) = ((0 : Nat) : Int) from rfl, e2]; rfl
  have j1 : impl_StateOk.j0v m true l y p q = some false := by rw [impl_StateOk.j0v_eq, if_pos rfl]
  have j2 : impl_StateOk.j0v m false l y p q = some b := by
    rw [impl_StateOk.j0v_eq, if_neg (by simp)]
    exact b2
  refine ⟨c && (b && ends n l y p q), ?_, ?_⟩
  · rw [spec_StateOk.fv_eq]
    refine e1.trans ?_
    cases c
    · simp
    · rw [if_pos rfl]; exact b1
  · rw [impl_StateOk.fv_eq, e2', so_in_impl, so_in_impl]
    simp only [Option.bind_some]
    unfold ends
    by_cases a1 : (l.length : Int) = n
    · rw [if_pos a1]
      cases c
      · rw [if_pos (by simpa using e3.2 rfl), j1]; rfl
      · rw [if_neg (fun x => by have := e3.1 (by simpa using x); simp at this)]
        by_cases a2 : (y.length : Int) > 40
        · rw [if_pos a2, j1]; simp; omega
        · rw [if_neg a2]
          by_cases a3 : 0 ≤ p ∧ p ≤ 1000000
          · rw [if_pos (by simpa using a3)]
            by_cases a4 : 0 ≤ q ∧ q ≤ 7
            · rw [decide_eq_true a4, show (!true) = false from rfl, j2]; simp [a1, a3]; omega
            · rw [decide_eq_false a4, show (!false) = true from rfl, j1]; simp
          · rw [if_neg (by simpa using a3), j1]; simp [a3]
    · rw [if_neg a1, j1]; simp [a1]
end FnExactStateOkAid
open FnExactStateOkAid

theorem FnExactStateOk : laws_FnExactStateOk.Pure := by
  intro x n m hx _ _
  refine (laws_FnExactStateOk.f_lim _ _ _ _ _ _).get ?_
  rw [laws_FnExactStateOk.fv_eq, sz_State x hx 1048576 (by omega) (by omega), Option.bind_some]
  by_cases h : dn (bl_State x) 1048576 < 0
  · rw [if_pos h]
  · have hn := dn_pos h (by omega)
    have hb1 : bl_State x ≤ 1048576 := by omega
    have hb2 := hb1
    unfold bl_State bls_Val bls_Cell at hb2
    rw [if_neg h, to_State x hb1]
    simp only [Option.bind_some]
    obtain ⟨r, e1, e2⟩ := stateok_both n m (x.f0.map cv_Val) (x.f1.map cv_Cell) x.f2 x.f3 (by simp; omega) (by
      intro v hv
      obtain ⟨u, hu, rfl⟩ := List.mem_map.1 hv
      have hm := le_sum (List.mem_map_of_mem (f := bl_Val) hu)
      have hu2 : u.f2.size ≤ bl_Val u := by unfold bl_Val; omega
      show u.f2.size ≤ 1048576
      omega) (by simp; omega) (by
      intro v hv
      obtain ⟨u, hu, rfl⟩ := List.mem_map.1 hv
      have hm := le_sum (List.mem_map_of_mem (f := bl_Cell) hu)
      have hu2 : u.f2.f2.size ≤ bl_Cell u := by unfold bl_Cell bl_Val; omega
      show u.f2.f2.size ≤ 1048576
      omega)
    rw [e1, e2]
    simp only [Option.bind_some]
    rw [bne_self_eq_false, if_neg (by simp), eq_State _ _ _ _ (by simp; omega) (by simp; omega)]
    rfl

end Go.Proofs.YtejndaljfbclnaaDoor.Pure
