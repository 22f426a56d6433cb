/- The abstract machine: operations on trees. -/
import Derived.Test.YtccldchklemogaaAm2u
set_option linter.unusedSectionVars false
set_option linter.unusedVariables false
set_option linter.unusedSimpArgs false
namespace Go.Proofs.YtccldchklemogaaW.AM
open Go Go.RowKit
variable {TT : Tab}

theorem plain_one {I : Nat → Nat → Option Value} {v : VV} {x : Value} (h : RepV I v x) (hp : plainV v = true) : x.oneCell' = true ∧ x.cells = #[x] ∧ v.cells = [v] := by
  cases h <;> first | (cases hp; done) | exact ⟨rfl, rfl, rfl⟩
theorem cellC_rep (C : Cx TT) {v : Value} {a : A0} (h : cellC v = some a) : RepA C a v ∧ v.oneCell' = true := by
  have hr := ofC_rep C v
  unfold cellC at h
  split at h
  · rename_i u hu
    rw [hu] at hr
    split at h
    · rename_i hp
      cases h
      exact ⟨hr, (plain_one hr hp).1⟩
    · cases h
  · rename_i hu
    rw [hu] at hr
    cases h
    exact ⟨hr, by rw [show v = _ from hr]; rfl⟩
  · cases h
theorem cellCs_rep (C : Cx TT) {vs : List Value} {cs : List A0} (h : mapO cellC vs = some cs) : FA (RepA C) cs vs ∧ ∀ u ∈ vs, u.oneCell' = true := by
  have hm := mapO_fa h
  refine ⟨fa_of (fa_len hm).symm fun i a v ha hv => ?_, fun u hu => ?_⟩
  · obtain ⟨b, hb, hc⟩ := fa_get hm hv
    rw [ha] at hb; cases hb
    exact (cellC_rep C hc).1
  · obtain ⟨i, hi⟩ := List.mem_iff_getElem?.1 hu
    obtain ⟨b, hb, hc⟩ := fa_get hm hi
    exact (cellC_rep C hc).2
section
variable {G : Env} {C : Cx G.tab} {hp : Hp} {w : World} {ρ : Operand → AV} {σ : Operand → Value} {K : KO}
theorem cellsV_rep {C : Cx TT} (hw : WR C hp w) {v : AV} {x : Value} (hx : RepAV C v x) {cs : List A0} (h : cellsV v hp = some cs) : FA (RepA C) cs x.cells.toList ∧ ∀ u ∈ x.cells.toList, u.oneCell' = true := by
  unfold cellsV at h
  split at h
  · split at h
    · rename_i cs' hcs
      cases h
      obtain ⟨l, hloc, hob⟩ := hw.ob _ _ hcs
      cases l with
      | box _ => exact hob.elim
      | own _ _ _ => exact hob.elim
      | virt vs =>
        obtain ⟨vs', hv', rfl⟩ := hx
        rw [hloc] at hv'; cases hv'
        exact ⟨by simpa [Value.cells] using hob.1, by simpa [Value.cells] using hob.2⟩
    · cases h
  · cases h
  · rename_i a hns hnd
    cases h
    exact RepA.cells hx (fun e => by subst e; exact hnd rfl) (fun id e => by subst e; exact hns _ rfl)
  · cases h
theorem elemA_rep {C : Cx TT} (hw : WR C hp w) (hρ : ∀ x, RepAV C (ρ x) (σ x)) (hσ : ∀ v, σ (.const v) = v) {x : Operand} {cs : List A0} (h : elemA ρ hp x = some cs) : FA (RepA C) cs (σ x).cells.toList ∧ ∀ u ∈ (σ x).cells.toList, u.oneCell' = true := by
  unfold elemA at h
  split at h
  · rename_i vs
    rw [hσ]
    obtain ⟨h1, h2⟩ := cellCs_rep C h
    exact ⟨by simpa [Value.cells] using h1, by simpa [Value.cells] using h2⟩
  · exact cellsV_rep hw (hρ x) h
theorem elemsA_rep {C : Cx TT} (hw : WR C hp w) (hρ : ∀ x, RepAV C (ρ x) (σ x)) (hσ : ∀ v, σ (.const v) = v) : ∀ {ps : List (Nat × Operand)} {l : List (Nat × List A0)}, elemsA ρ hp ps = some l → FA (fun a (b : Nat × Value) => a.1 = b.1 ∧ FA (RepA C) a.2 b.2.cells.toList ∧ ∀ u ∈ b.2.cells.toList, u.oneCell' = true) l (ps.map fun p => (p.1, σ p.2))
  | [], l, h => by simp [elemsA] at h; subst h; exact .nil
  | (i, x) :: rest, l, h => by
    simp only [elemsA] at h
    split at h
    · rename_i a l' h1 h2
      cases h
      exact .cons ⟨rfl, elemA_rep hw hρ hσ h1⟩ (elemsA_rep hw hρ hσ h2)
    · cases h
theorem okTs_ok {ty : Nat → Nat → Nat} {T sz : Nat} : ∀ {k : Nat} {ts : List (Option Nat)}, okTs ty T sz k ts = true → ∀ (i : Nat) t, ts[i]? = some t → tyOk t (ty T ((k + i) % sz))
  | k, [], h, i, t, hi => by simp at hi
  | k, none :: l, h, i, t, hi => by
    cases i with
    | zero => simp at hi; subst hi; intro e he; cases he
    | succ i =>
      have := okTs_ok (k := k + 1) (ts := l) h i t (by simpa using hi)
      rwa [show k + 1 + i = k + (i + 1) by omega] at this
  | k, some e :: l, h, i, t, hi => by
    simp only [okTs, Bool.and_eq_true] at h
    cases i with
    | zero => simp at hi; subst hi; intro e' he; cases he; exact Nat.eq_of_beq_eq_true h.1
    | succ i =>
      have := okTs_ok (k := k + 1) (ts := l) h.2 i t (by simpa using hi)
      rwa [show k + 1 + i = k + (i + 1) by omega] at this
theorem RepT.cell1 {ty : Nat → Nat → Nat} {w : World} {T : Nat} {v : VV} {x : Value} {F : Nat → Prop} (h : RepT ty w T v x F) : v.cells = [v] := by cases h <;> rfl
theorem chunk_flat {agg : Bool} {sz : Nat} (h0 : 0 < sz) (ha : agg = true ∨ sz = 1) : ∀ (n : Nat) (vs : List VV), vs.length = n * sz → (∀ v ∈ vs, v.cells = [v]) → flatC (chunkV agg sz n vs) = vs ∧ (∀ e ∈ chunkV agg sz n vs, e.cells.length = sz) ∧ (chunkV agg sz n vs).length = n
  | 0, vs, hl, _ => by
    have : vs = [] := List.eq_nil_of_length_eq_zero (by simpa using hl)
    subst this; exact ⟨rfl, by simp [chunkV], rfl⟩
  | n + 1, vs, hl, hc => by
    have hle : sz ≤ vs.length := by rw [hl, Nat.add_mul]; omega
    obtain ⟨h1, h2, h3⟩ := chunk_flat h0 ha n (vs.drop sz) (by rw [List.length_drop, hl, Nat.add_mul]; omega) fun v hv => hc v (List.drop_subset _ _ hv)
    have he : (elemOf agg (vs.take sz)).cells = vs.take sz := by
      unfold elemOf
      cases agg with
      | true => rfl
      | false =>
        have : sz = 1 := by rcases ha with h | h; cases h; exact h
        subst this
        cases vs with
        | nil => simp at hle
        | cons a l => simpa using hc a (by simp)
    refine ⟨?_, fun e hm => ?_, by simp [chunkV, h3]⟩
    · simp only [chunkV, flatC, List.flatMap_cons] at h1 ⊢
      rw [he, h1, List.take_append_drop]
    · simp only [chunkV, List.mem_cons] at hm
      rcases hm with rfl | hm
      · rw [he, List.length_take]; omega
      · exact h2 e hm
theorem RepV.cell1 {ty : Nat → Nat → Nat} {w : World} {T : Nat} {v : VV} {x : Value} {F : Nat → Prop} (h : RepT ty w T v x F) : x.cells = #[x] := by cases h <;> rfl

/-- A tree's row, opened. -/
theorem tree_open {C : Cx TT} (h : WR C hp w) (id : Nat) {e sz g : Nat} {es : List VV} (hid : hp id = some (.tree e sz es g)) (hne : es ≠ []) :
    ∃ (b cap : Nat) (cur : Array Value) (P : Nat → Nat → Prop), C.loc id = some (.own g sz (.slice (some ⟨b, 0, none⟩) es.length cap)) ∧ 0 < sz ∧ sz = szT TT.ty e ∧ w.heap[b]? = some (.cells cur e (0, 0)) ∧ es.length ≤ cap ∧ cur.size = cap * sz ∧ (∀ e ∈ es, e.cells.length = sz) ∧ (∀ i, i < es.length * sz → (cur.getD i undef).oneCell' = true) ∧
      (∀ (i : Nat) c, (flatC es)[i]? = some c → RepT TT.ty w (TT.ty e (i % sz)) c (cur.getD i undef) (P i)) ∧ (∀ i k, i < es.length * sz → P i k → blk C id k) ∧ (∀ i j k, i < es.length * sz → j < es.length * sz → P i k → P j k → i = j) ∧ (∀ k j, blk C id k → C.I k j = none) ∧ blk C id b ∧ RepT TT.ty w e (.row es) (.slice (some ⟨b, 0, none⟩) es.length cap) (blk C id) := by
  have ht := h.tr id
  rw [hid] at ht
  obtain ⟨v, hloc, hrep, hI0⟩ := ht
  obtain ⟨l, hl, hob⟩ := h.ob id _ hid
  rw [hloc] at hl; cases hl
  obtain ⟨_, _, hsz, xs, hrow⟩ := hob
  have hrep' := hrep
  generalize hF : blk C id = F at hrep
  cases hrep with
  | row0 T F hF => exact absurd rfl hne
  | row es b cap T sz1 cur P F hz hzt hbb hn hm hs hsz1 h1 hh hP hd hFF =>
    have hpos : 0 < es.length := List.length_pos_iff.2 hne
    have hszz : sz1 = sz := by
      rcases hrow.2 with ⟨e1, _⟩ | ⟨b2, cap2, cur2, e1, _, hb2, hn2, hm2, hs2, htk⟩
      · cases e1
      · cases e1
        rw [hbb] at hb2; cases hb2
        have h3 : cap * sz1 = cap * sz := by rw [← hs, hs2]
        exact Nat.eq_of_mul_eq_mul_left (by omega) h3
    subst hszz
    rw [hF] at hI0 hrep'
    exact ⟨b, cap, cur, P, hloc, hz, hzt, hbb, hn, hs, hsz1, h1, hh, fun i k hi hk => (hFF k).2 (.inr ⟨i, hi, hk⟩), hd, hI0, (hFF b).2 (.inl rfl), hrep'⟩
theorem tree_open2 {C : Cx TT} (h : WR C hp w) (id : Nat) {e sz g : Nat} {es : List VV} (hid : hp id = some (.tree e sz es g)) (hne : es ≠ []) :
    ∃ (b cap : Nat) (cur : Array Value) (P : Nat → Nat → Prop), C.loc id = some (.own g sz (.slice (some ⟨b, 0, none⟩) es.length cap)) ∧ 0 < sz ∧ sz = szT TT.ty e ∧ w.heap[b]? = some (.cells cur e (0, 0)) ∧ es.length ≤ cap ∧ cap ≤ maxLen ∧ cur.size = cap * sz ∧ (∀ e ∈ es, e.cells.length = sz) ∧ (∀ i, i < es.length * sz → (cur.getD i undef).oneCell' = true) ∧
      (∀ (i : Nat) c, (flatC es)[i]? = some c → RepT TT.ty w (TT.ty e (i % sz)) c (cur.getD i undef) (P i)) ∧ (∀ i k, i < es.length * sz → P i k → blk C id k ∧ k ≠ b) ∧ (∀ i j k, i < es.length * sz → j < es.length * sz → P i k → P j k → i = j) ∧ (∀ k j, blk C id k → C.I k j = none) := by
  obtain ⟨b, cap, cur, P, h1, h2, h3, h4, h5, h6, h7, h8, h9, h10, h11, h12, h13, h14⟩ := tree_open h id hid hne
  generalize hF : blk C id = F at h14
  cases h14 with
  | row es b cap2 T sz2 cur2 P2 F hz hzt hbb hn hm hs hsz1 g1 hh hP hd hFF =>
    rw [h4] at hbb; cases hbb
    have hszz : sz2 = sz := by rw [hzt, h3]
    subst hszz
    rw [hF] at h12
    exact ⟨b, cap, cur, P2, h1, h2, h3, h4, h5, hm, h6, h7, h8, hh, fun i k hi hk => ⟨(hFF k).2 (.inr ⟨i, hi, hk⟩), fun e => by subst e; exact hP i hi hk⟩, hd, h12⟩
/-- A part of an element: its cells in memory. -/
def segC (cur : Array Value) (o n : Nat) : List Value := (List.range n).map fun j => cur.getD (o + j) undef
theorem segC_get {cur : Array Value} {o n j : Nat} {u : Value} : (segC cur o n)[j]? = some u ↔ j < n ∧ cur.getD (o + j) undef = u := by
  unfold segC
  rw [List.getElem?_map]
  by_cases hj : j < n
  · rw [List.getElem?_range hj]; simp [hj]
  · rw [List.getElem?_eq_none (by simpa using hj)]; simp [hj]
theorem segC_len (cur : Array Value) (o n : Nat) : (segC cur o n).length = n := by simp [segC]
theorem cell_of {w : World} {b e i : Nat} {cur : Array Value} (hb : w.heap[b]? = some (.cells cur e (0, 0))) (hi : i < cur.size) : w.cell? ⟨b, i, none⟩ = some (cur.getD i undef) := by simp [World.cell?, hb, Array.getD, hi]
theorem oneRow_spec : ∀ {cs : List VV} {k q : Nat} {ks : List VV}, oneRow cs k = some (q, ks) → k ≤ q ∧ cs[q - k]? = some (.row ks) ∧ ∀ (j : Nat) c, cs[j]? = some c → j ≠ q - k → plainV c = true
  | [], k, q, ks, h => by simp [oneRow] at h
  | a :: l, k, q, ks, h => by
    have rec_ : plainV a = true → oneRow l (k + 1) = some (q, ks) → k ≤ q ∧ (a :: l)[q - k]? = some (.row ks) ∧ ∀ (j : Nat) c, (a :: l)[j]? = some c → j ≠ q - k → plainV c = true := fun ha h => by
      obtain ⟨h1, h2, h3⟩ := oneRow_spec h
      have e : q - k = (q - (k + 1)) + 1 := by omega
      refine ⟨by omega, by rw [e]; simpa using h2, fun j c hc hj => ?_⟩
      cases j with
      | zero => simp at hc; subst hc; exact ha
      | succ j => exact h3 j c (by simpa using hc) (by omega)
    cases a
    case row ks' =>
      simp only [oneRow] at h
      split at h
      · rename_i hall
        cases h
        refine ⟨Nat.le_refl _, by simp, fun j c hc hj => ?_⟩
        cases j with
        | zero => simp at hj
        | succ j => exact List.all_eq_true.1 hall c (List.mem_iff_getElem?.2 ⟨j, by simpa using hc⟩)
      · cases h
    all_goals
      simp only [oneRow] at h
      split at h
      · rename_i ha; exact rec_ ha h
      · cases h
theorem cellsR_get {cs : List VV} {q : Nat} {a : A0} (hq : q < cs.length) : (cellsR cs q a).length = cs.length ∧ (cellsR cs q a)[q]? = some a ∧ ∀ j, j ≠ q → (cellsR cs q a)[j]? = (cs[j]?).map A0.val := by
  unfold cellsR
  have hl : ((cs.take q).map A0.val).length = q := by simp; omega
  refine ⟨by simp; omega, by rw [List.getElem?_append_right (by omega), hl]; simp, fun j hj => ?_⟩
  by_cases h : j < q
  · rw [List.getElem?_append_left (by omega), List.getElem?_map, List.getElem?_take, if_pos h]
  · rw [List.getElem?_append_right (by omega), hl, show j - q = (j - q - 1) + 1 by omega, List.getElem?_cons_succ, List.getElem?_map, List.getElem?_drop]
    congr 2; omega
theorem ep_of {C : Cx TT} {id g k off g2 sz n cap : Nat} {b : Nat} {x : Value} (ha : RepA C (.ep id g k off) x) (hloc : C.loc id = some (.own g2 sz (.slice (some ⟨b, 0, none⟩) n cap))) (hg : g = g2) : x = .pointer (some ⟨b, k * sz + off, none⟩) := by
  obtain ⟨_, g3, sz3, v3, k1, k2, k3⟩ := ha
  rw [hloc] at k1; cases k1
  obtain ⟨b', n', cap', e1, e2⟩ := k3 hg
  cases e1; exact e2

theorem vbox_step (hw : WR C hp w) {T rid i : Nat} {cs : List A0} {xs : List Value} (hr : FA (RepA C) cs xs) (h1 : ∀ u ∈ xs, u.oneCell' = true) {p : Nat} (hp16 : 16 ≤ p)
    (h : homesL G.tab.ty T rid i 0 0 cs hp fun cs hp' => newOb rid i (.vbox cs) (.sp (pid rid i)) hp' K) : Step C w K (.agg xs.toArray) w := by
  obtain ⟨C', hp', cs', ⟨hn, hk⟩, q2, q3, q4, q5⟩ := homesL_sound cs 0 0 hw hr h
  obtain ⟨n1, n2, n3⟩ := new_virt q4 (pid rid i) hn (pid_ge _ _) cs' xs q2 h1
  exact ⟨_, _, _, hk, ⟨xs, Cx.set_same _ _ _, rfl⟩, q3.trans n1, n2, q5.trans n3⟩
theorem plain_at {C : Cx TT} {v : VV} {x : Value} {ty : Nat → Nat → Nat} {T : Nat} {F : Nat → Prop} (h : RepT ty w T v x F) (hp : plainV v = true) : RepAV C (.one (.val v)) x := h.plain hp
theorem tload_good (hG : G.Ok) (hw : WR C hp w) {h0 rid i : Nat} {t : TypeId} {a : AV} {x : Value} (ha : RepAV C a x) (h : tLoad G h0 rid i t a hp K) : ∃ y, (Instr.loadAt t x).run G.P w = .ok y w ∧ Step C w K y w := by
  unfold tLoad at h
  split at h
  rotate_left
  · exact h.elim
  rename_i ti id g k off hti
  obtain ⟨ii, d, z, hs⟩ := ti_spec (hG.ti _ _ hti)
  split at h
  rotate_left
  · exact h.elim
  rename_i e sz es g' hid
  obtain ⟨rfl, u, hu, h⟩ := h
  have hkl : k < es.length := (List.getElem?_eq_some_iff.1 hu).1
  have hne : es ≠ [] := fun e => by subst e; simp at hkl
  obtain ⟨b, cap, cur, P, hloc, hz, hzt, hbb, hn, hcs, hsz1, h1, hh, hPF, hd, hI0, hbF, hrep⟩ := tree_open hw id hid hne
  have hx := ep_of ha hloc rfl
  subst hx
  have hul : u.cells.length = sz := hsz1 u (List.mem_iff_getElem?.2 ⟨k, hu⟩)
  have hksz : k * sz + sz ≤ es.length * sz := by have := Nat.mul_le_mul_right sz (show k + 1 ≤ es.length from hkl); rwa [Nat.add_mul, Nat.one_mul] at this
  have hcap : es.length * sz ≤ cur.size := by rw [hcs]; exact Nat.mul_le_mul_right _ hn
  have hmod : ∀ j, j < sz → (k * sz + j) % sz = j := fun j hj => by rw [Nat.add_comm, Nat.add_mul_mod_self_right, Nat.mod_eq_of_lt hj]
  have hcell : ∀ (j : Nat) c, u.cells[j]? = some c → j < sz ∧ RepT G.tab.ty w (G.tab.ty e j) c (cur.getD (k * sz + j) undef) (P (k * sz + j)) := fun j c hc => by
    have hj : j < sz := by rw [← hul]; exact (List.getElem?_eq_some_iff.1 hc).1
    have := hh _ c (flat_get hsz1 hu hc)
    rw [hmod j hj] at this
    exact ⟨hj, this⟩
  have hone : ∀ j, j < sz → (cur.getD (k * sz + j) undef).oneCell' = true := fun j hj => h1 _ (by omega)
  have hmem : ∀ j, j < sz → w.cell? ⟨b, k * sz + j, none⟩ = some (cur.getD (k * sz + j) undef) := fun j hj => cell_of hbb (by omega)
  -- loads of one cell, of a part
  have load1 : ti.agg = false → off < sz → (Instr.loadAt t (.pointer (some ⟨b, k * sz + off, none⟩))).run G.P w = .ok (cur.getD (k * sz + off) undef) w := fun hagg ho => by
    obtain ⟨y, hy, hy2⟩ := run_part (w := w) hs b (k * sz + off) 0 [cur.getD (k * sz + off) undef] (fun j v hv => by
      cases j with
      | zero => rw [List.getElem?_cons_zero] at hv; cases hv; exact hmem off ho
      | succ j => simp at hv) (R := fun y => y = cur.getD (k * sz + off) undef) (by rw [if_neg (by simp [hagg])]; exact ⟨_, rfl, rfl⟩)
    subst hy2
    simpa [Instr.loadAt, Instr.sureAddr] using hy
  have loadN : ti.agg = true → off + ti.size ≤ sz → (Instr.loadAt t (.pointer (some ⟨b, k * sz + off, none⟩))).run G.P w = .ok (.agg (segC cur (k * sz + off) ti.size).toArray) w := fun hagg ho => by
    obtain ⟨y, hy, hy2⟩ := run_part (w := w) hs b (k * sz + off) 0 (segC cur (k * sz + off) ti.size) (fun j v hv => by
      obtain ⟨hj, rfl⟩ := segC_get.1 hv
      rw [Nat.add_assoc]; exact hmem (off + j) (by omega)) (R := fun y => y = .agg (segC cur (k * sz + off) ti.size).toArray) (by
        rw [if_pos hagg, segC_len]
        refine ⟨by omega, ?_⟩
        rw [List.drop_zero, List.take_of_length_le (by rw [segC_len]; exact Nat.le_refl _)])
    subst hy2
    simpa [Instr.loadAt, Instr.sureAddr] using hy
  split at h
  · rename_i hagg
    split at h
    · rename_i v hv
      obtain ⟨hp1, hk⟩ := h
      obtain ⟨ho, hr⟩ := hcell off v hv
      exact ⟨_, load1 hagg ho, _, C, hp, hk, plain_at hr hp1, Le.refl _, hw, Stp.refl _ _⟩
    · exact h.elim
  · rename_i hagg
    obtain ⟨⟨rfl, hsz2⟩, h⟩ := h
    obtain ⟨C1, v1, hl1, hrep1, hfree, hI, hIn, hsub, hle, hwr, hst⟩ := take_tree hw id e sz g es hid
    rw [hul] at hsz2
    obtain ⟨C2, hp2, cs2, ⟨hn2, hk⟩, q2, q3, q4, q5⟩ := outL_sound hw u.cells 0 0 hwr hst hI (xs := segC cur (k * sz + 0) sz) (P := fun j b => j < sz ∧ P (k * sz + j) b) (by rw [segC_len, hul]) (fun j c x hc hx => by
      obtain ⟨hj, rfl⟩ := segC_get.1 hx
      rw [Nat.zero_add, Nat.add_zero]
      have h9 := (hcell j c hc).2
      have e : P (k * sz + j) = fun b => j < sz ∧ P (k * sz + j) b := funext fun b => propext ⟨fun h => ⟨hj, h⟩, fun h => h.2⟩
      rw [e] at h9; exact h9) (fun j b hb => by
      have hF := hPF _ b (by omega) hb.2
      exact ⟨fun q => hfree b q hF, fun q => by rw [hI]; exact hIn b q hF, id, hF⟩) (fun j q b h1 h2 => by have := hd _ _ b (by omega) (by omega) h1.2 h2.2; omega) h
    obtain ⟨n1, n2, n3⟩ := new_virt q4 (pid rid i) hn2 (pid_ge _ _) cs2 _ q2 (fun y hy => by
      obtain ⟨j, hj⟩ := List.mem_iff_getElem?.1 hy
      obtain ⟨hj2, rfl⟩ := segC_get.1 hj
      rw [Nat.add_zero]; exact hone j hj2)
    refine ⟨_, loadN hagg (by omega), _, _, _, hk, ⟨_, Cx.set_same _ _ _, ?_⟩, hle.trans (q3.trans n1), n2, q5.trans n3⟩
    rw [hsz2]
  · rename_i hagg
    split at h
    · rename_i ks hks
      obtain ⟨⟨hz2, hn2, _⟩, hk⟩ := h
      obtain ⟨ho, hr⟩ := hcell off _ hks
      obtain ⟨C2, b', cap', x, hloc', hx', h1x, hlj, hle, hwr, hst⟩ := split_tree hw id hid hu hks hz2 hn2 (show 16 ≤ tid rid i 0 by unfold tid; omega)
      rw [hloc] at hloc'; cases hloc'
      rw [hmem off ho] at hx'; cases hx'
      exact ⟨_, load1 hagg ho, _, C2, _, hk, ⟨h1x, 0, _, _, hlj, Nat.le_refl _, fun _ => rfl⟩, hle, hwr, hst⟩
    · exact h.elim
  · rename_i hagg
    split at h
    · rename_i q ks hq
      obtain ⟨⟨hz2, hn2, ho⟩, hn3, hk⟩ := h
      rw [hul] at ho
      obtain ⟨_, hq1, hq2⟩ := oneRow_spec hq
      rw [Nat.sub_zero] at hq1
      have hql : q < ti.size := by
        have := (List.getElem?_eq_some_iff.1 hq1).1
        simp at this; omega
      have hpart : ∀ (j : Nat) c, ((u.cells.drop off).take ti.size)[j]? = some c → j < ti.size ∧ u.cells[off + j]? = some c := fun j c hc => by
        rw [List.getElem?_take] at hc
        split at hc
        · rename_i hj; rw [List.getElem?_drop] at hc; exact ⟨hj, hc⟩
        · cases hc
      have hpl : ((u.cells.drop off).take ti.size).length = ti.size := by simp; omega
      have hks := (hpart q _ hq1).2
      obtain ⟨C2, b', cap', x, hloc', hx', h1x, hlj, hle, hwr, hst⟩ := split_tree hw id hid hu hks hz2 hn2 (show 16 ≤ tid rid i 0 by unfold tid; omega)
      rw [hloc] at hloc'; cases hloc'
      rw [hmem (off + q) (by omega)] at hx'; cases hx'
      obtain ⟨c1, c2, c3⟩ := cellsR_get (cs := (u.cells.drop off).take ti.size) (q := q) (a := .ref (tid rid i 0) 0) (by omega)
      have hfa : FA (RepA C2) (cellsR ((u.cells.drop off).take ti.size) q (.ref (tid rid i 0) 0)) (segC cur (k * sz + off) ti.size) := fa_of (by rw [c1, segC_len, hpl]) fun j a y ha hy => by
        obtain ⟨hj, rfl⟩ := segC_get.1 hy
        by_cases e : j = q
        · subst e
          rw [c2] at ha; cases ha
          rw [Nat.add_assoc]
          exact ⟨h1x, 0, _, _, hlj, Nat.le_refl _, fun _ => rfl⟩
        · rw [c3 j e] at ha
          obtain ⟨c, hc, rfl⟩ := Option.map_eq_some_iff.1 ha
          have hpc := hq2 j c hc (by omega)
          rw [Nat.add_assoc]
          exact (hcell (off + j) c (hpart j c hc).2).2.plain hpc
      obtain ⟨n1, n2, n3⟩ := new_virt hwr (pid rid i) hn3 (pid_ge _ _) _ _ hfa (fun y hy => by
        obtain ⟨j, hj⟩ := List.mem_iff_getElem?.1 hy
        obtain ⟨hj2, rfl⟩ := segC_get.1 hj
        rw [Nat.add_assoc]; exact hone _ (by omega))
      exact ⟨_, loadN hagg ho, _, _, _, hk, ⟨_, Cx.set_same _ _ _, rfl⟩, hle.trans n1, n2, hst.trans n3⟩
    · exact h.elim
theorem tstore_good (hG : G.Ok) (hw : WR C hp w) {t : TypeId} {a v : AV} {x y : Value} (ha : RepAV C a x) (hv : RepAV C v y) (h : tStore G t a v hp K) : ∃ w', (Instr.storeAt t x y).run G.P w = .ok () w' ∧ Step C w K undef w' := by
  unfold tStore at h
  split at h
  rotate_left
  · exact h.elim
  rename_i ti id g k off hti
  obtain ⟨ii, d, z, hs⟩ := ti_spec (hG.ti _ _ hti)
  split at h
  · rename_i v
    split at h
    rotate_left
    · exact h.elim
    rename_i e sz es g' hid
    obtain ⟨⟨rfl, hpv, hsz1'⟩, u, hu, h⟩ := h
    split at h
    rotate_left
    · exact h.elim
    rename_i c u' hc hst
    rw [named_eq] at h
    obtain ⟨hpc, hk⟩ := h
    have hkl : k < es.length := (List.getElem?_eq_some_iff.1 hu).1
    have hne : es ≠ [] := fun e => by subst e; simp at hkl
    obtain ⟨b, cap, cur, P, hloc, hz, hzt, hbb, hn, hcs, hsz1, h1, hh, hPF, hd, hI0, hbF, hrep⟩ := tree_open hw id hid hne
    have hx := ep_of ha hloc rfl
    subst hx
    obtain ⟨hy1, hyc, hvc⟩ := plain_one hv hpv
    obtain ⟨hput, hle2⟩ := stE_cells hst
    rw [hvc] at hput hle2
    have hul : u.cells.length = sz := hsz1 u (List.mem_iff_getElem?.2 ⟨k, hu⟩)
    have ho : off < sz := by rw [← hul]; exact (List.getElem?_eq_some_iff.1 hc).1
    have hfl := flat_get hsz1 hu hc
    have hmlt : k * sz + off < es.length * sz := by rw [← flatC_len hsz1]; exact (List.getElem?_eq_some_iff.1 hfl).1
    have hmc : k * sz + off < cur.size := by
      rw [hcs]; have := Nat.mul_le_mul_right sz hn; omega
    have hbl : w.heap[b]? = some (.cells cur.toList.toArray e (0, 0)) := by simpa using hbb
    have hrun := run_storeVar hs b (k * sz + off) e cur.toList y hbl (by rw [hyc, hsz1']; rfl) (by rw [hyc]; simpa using hy1) (by rw [hyc]; simp; omega)
    have hnew := setRow_heap w b _ (setAt cur.toList (k * sz + off) y.cells.toList).toArray e _ hbl
    have harr : (setAt cur.toList (k * sz + off) y.cells.toList).toArray = cur.setIfInBounds (k * sz + off) y := by
      apply Array.ext'
      rw [hyc, Array.toList_setIfInBounds]
      simp only [setAt]
      rw [List.set_eq_take_append_cons_drop, if_pos (by simpa using hmc)]
      simp
    rw [harr] at hnew hrun
    have hg := grown_set w b (cur.setIfInBounds (k * sz + off) y)
    have hkeep : ∀ q, q ≠ b → (w.setRow b (cur.setIfInBounds (k * sz + off) y)).heap[q]? = w.heap[q]? := fun q hq => setRow_other w b q _ hq
    have hfs := flat_set hsz1 hu hput ho
    have hlen : (es.set k u').length = es.length := by simp
    have hrep' := set_rep hrep hbb hsz1 hne hfl hpc hpv (fun T' => RepT.ofPlain G.tab.ty (w.setRow b (cur.setIfInBounds (k * sz + off) y)) T' hv hpv) hfs hlen (fun x hx => by
      rcases List.mem_or_eq_of_mem_set hx with h | h
      · exact hsz1 x h
      · rw [h, hput, setAt_len _ _ _ (by simpa using hle2)]; exact hul) hnew hkeep
    obtain ⟨xs, hrow'⟩ := hrep'.owns (by rw [← hzt]; exact hz)
    rw [← hzt] at hrow'
    obtain ⟨k1, k2⟩ := set_tree hw id hid hloc rfl hz hrow' hrep' hg
    refine ⟨_, by simpa [Instr.storeAt, Instr.sureAddr] using hrun, .tup [], C, _, hk, ⟨[], rfl, .nil⟩, Le.refl _, k1, k2⟩
  · rename_i j gj
    split at h
    rotate_left
    · exact h.elim
    rename_i e sz es g' k' off' j' e2 sz2 ks g2 hid hj
    obtain ⟨⟨rfl, rfl, hsz1'⟩, ⟨rfl, rfl, hjj, hee⟩, u, hu, h⟩ := h
    have hjj := Nat.eq_of_beq_eq_true hjj
    have hee := Nat.eq_of_beq_eq_true hee
    subst hjj hee
    split at h
    rotate_left
    · exact h.elim
    rename_i u' hst
    rw [named_eq] at h
    have ht := hw.tr id
    rw [hid] at ht
    obtain ⟨v0, u00, hloc, hhole, hI0, hne, _⟩ := ht
    obtain ⟨b, cap, cur, P, rfl, hbb, hn, hm, hcs, hsz1, h1, ⟨hmlt, hz, hzt⟩, hmu, _⟩ := hhole
    have hx := ep_of ha hloc rfl
    subst hx
    obtain ⟨hy1, g3, sz3, v3, k1, k2, k3⟩ := hv
    have htj := hw.tr j
    rw [hj] at htj
    obtain ⟨vj, hlj, hrepj, _⟩ := htj
    rw [hlj] at k1; cases k1
    have hyv := k3 rfl
    subst hyv
    have hyc : y.cells = #[y] := RepV.cell1 hrepj
    have hmc : k * sz + off < cur.size := by
      rw [hcs]; have := Nat.mul_le_mul_right sz hn; omega
    have hbl : w.heap[b]? = some (.cells cur.toList.toArray e (0, 0)) := by simpa using hbb
    have hrun := run_storeVar hs b (k * sz + off) e cur.toList y hbl (by rw [hyc, hsz1']; rfl) (by rw [hyc]; simpa using hy1) (by rw [hyc]; simp; omega)
    have hnew := setRow_heap w b _ (setAt cur.toList (k * sz + off) y.cells.toList).toArray e _ hbl
    have harr : (setAt cur.toList (k * sz + off) y.cells.toList).toArray = cur.setIfInBounds (k * sz + off) y := by
      apply Array.ext'
      rw [hyc, Array.toList_setIfInBounds]
      simp only [setAt]
      rw [List.set_eq_take_append_cons_drop, if_pos (by simpa using hmc)]
      simp
    rw [harr] at hnew hrun
    have hg := grown_set w b (cur.setIfInBounds (k * sz + off) y)
    obtain ⟨C2, n1, n2, n3⟩ := fill_tree hw id hid hj hu hst hlj hloc hbb hnew (by simp) (fun i => by
      by_cases e : i = k * sz + off
      · subst e; rw [if_pos rfl]; simp [Array.getD, hmc]
      · rw [if_neg e]; simp only [Array.getD_eq_getD_getElem?]; rw [Array.getElem?_setIfInBounds_ne (Ne.symm e)]) hg
    exact ⟨_, by simpa [Instr.storeAt, Instr.sureAddr] using hrun, .tup [], C2, _, h, ⟨[], rfl, .nil⟩, n1, n2, n3⟩
  · exact h.elim
theorem tput_good (hG : G.Ok) (hw : WR C hp w) {t : TypeId} {a v : AV} {x y : Value} (ha : RepAV C a x) (hv : RepAV C v y) (h : tPut G t a v hp K) : ∃ w', (Instr.storeAt t x y).run G.P w = .ok () w' ∧ Step C w K undef w' := by
  unfold tPut at h
  split at h
  rotate_left
  · exact h.elim
  rename_i ti id g k j hti
  obtain ⟨ii, d, z, hs⟩ := ti_spec (hG.ti _ _ hti)
  split at h
  rotate_left
  · exact h.elim
  rename_i cs hcsj
  obtain ⟨lj, hlj, hobj⟩ := hw.ob j _ hcsj
  cases lj with
  | box _ => exact hobj.elim
  | own _ _ _ => exact hobj.elim
  | virt xs =>
    obtain ⟨xs', hx', hyx⟩ := hv
    rw [hlj] at hx'; cases hx'
    obtain ⟨C', hp', vs, ts, P, h, q2, q2t, q3, q4, q5, q6, q7, q8, q9, q10⟩ := takeL_sound cs hw hobj.1 h
    split at h
    rotate_left
    · exact h.elim
    rename_i e sz es g' hid
    obtain ⟨⟨rfl, hsz, hagg, hcl, hok⟩, u, hu, hk⟩ := h
    rw [named_eq] at hk
    have hne : es ≠ [] := fun e => by subst e; simp at hu
    obtain ⟨b, cap, cur, P1, hloc, hz, hzt, hbb, hn, hm, hcs, hsz1, h1, hh, hPF, hd, hI0⟩ := tree_open2 q9 id hid hne
    have hx := ep_of (ha.mono q8) hloc rfl
    subst hx
    have hxl : xs.length = sz := by rw [← fa_len hobj.1]; exact hcl
    have hkl : k < es.length := (List.getElem?_eq_some_iff.1 hu).1
    have hksz : k * sz + sz ≤ es.length * sz := by have := Nat.mul_le_mul_right sz (show k + 1 ≤ es.length from hkl); rwa [Nat.add_mul, Nat.one_mul] at this
    have hcap : es.length * sz ≤ cur.size := by rw [hcs]; exact Nat.mul_le_mul_right _ hn
    have hbl : w.heap[b]? = some (.cells cur.toList.toArray e (0, 0)) := by simpa using hbb
    have hyc : y.cells.toList = xs := by rw [hyx]; simp [Value.cells]
    have hys : y.cells.size = xs.length := by rw [← hyc]; simp
    have hrun := run_storeVar hs b (k * sz + 0) e cur.toList y hbl (by rw [hys, hxl, hsz]) (by rw [hyc]; exact hobj.2) (by rw [hys, hxl]; simp; omega)
    have hnew := setRow_heap w b _ (setAt cur.toList (k * sz + 0) y.cells.toList).toArray e _ hbl
    rw [hyc] at hrun hnew
    have hcl2 : cur.toList.length = cur.size := by simp
    have hsl := setAt_len cur.toList (k * sz + 0) xs (by omega)
    have hg := grown_set w b (setAt cur.toList (k * sz + 0) xs).toArray
    obtain ⟨C2, n1, n2, n3⟩ := put_tree hw q9 q10 q6 q7 id hid hu (q2.trans hxl) hxl hloc hz hzt hn hm hcs hbb hsz1 h1 hh hPF hd hI0 hobj.2 (fun i c u hc hu => q3 i c u hc hu _ fun t ht => by
      have hi : i < sz := by rw [← hxl]; exact (List.getElem?_eq_some_iff.1 hu).1
      have := okTs_ok hok i t ht
      rwa [Nat.zero_add, Nat.mod_eq_of_lt hi] at this) q4 q5 hnew (by rw [List.size_toArray, hsl]; simp) (fun i => by
      have key : (setAt cur.toList (k * sz + 0) xs).toArray.getD i undef = ((setAt cur.toList (k * sz + 0) xs)[i]?).getD undef := by simp [Array.getD_eq_getD_getElem?]
      rw [key, setAt_get _ _ _ _ (by omega)]
      by_cases h1 : i < k * sz + 0
      · rw [if_pos h1, if_neg (by omega)]; simp [Array.getD_eq_getD_getElem?]
      · rw [if_neg h1]
        by_cases h2 : i < k * sz + 0 + xs.length
        · rw [if_pos h2, if_pos (by omega)]; congr 2 <;> omega
        · rw [if_neg h2, if_neg (by omega)]; simp [Array.getD_eq_getD_getElem?]) hg
    exact ⟨_, by simpa [Instr.storeAt, Instr.sureAddr] using hrun, .tup [], C2, _, hk, ⟨[], rfl, .nil⟩, q8.trans n1, n2, n3⟩
theorem tmake_good (hG : G.Ok) (hw : WR C hp w) {rid i : Nat} {t : TypeId} {l c : AV} {lv cv : Value} (hl : RepAV C l lv) (hc : RepAV C c cv) (h : tMake G rid i t l c hp K) : ∃ y w', (Instr.makeSlice t lv cv).run G.P w = .ok y w' ∧ Step C w K y w' := by
  unfold tMake at h
  split at h
  rotate_left
  · exact h.elim
  rename_i ti k n k' m hti
  have hx1 : RepV C.I (.int k n) lv := hl
  have hx2 : RepV C.I (.int k' m) cv := hc
  cases hx1
  cases hx2
  obtain ⟨ii, d, z, hs⟩ := ti_spec (hG.ti _ _ hti)
  split at h
  rotate_left
  · exact h.elim
  rename_i e he
  split at h
  rotate_left
  · exact h.elim
  rename_i te hte
  obtain ⟨ie, de, ze, hse⟩ := ti_spec (hG.ti _ _ hte)
  split at h
  rotate_left
  · exact h.elim
  rename_i zl hz
  simp only [named_eq] at h
  obtain ⟨rfl, ⟨h1, h2, h3, h4, h5, h6, h7⟩, k1, k2⟩ := h
  obtain ⟨N, rfl⟩ := Int.eq_ofNat_of_zero_le h1
  have hbn : ie.bytes * N ≤ 281474976710656 := by
    rw [hse.bytes] at h3
    have : ((ie.bytes * N : Nat) : Int) ≤ 281474976710656 := by push_cast; exact h3
    omega
  have hue : G.P.underlying t = some (.slice e) := by
    obtain ⟨e', he', hh⟩ := sl_und hs (by rw [he]; rfl)
    rw [he] at he'; cases he'; exact hh
  obtain ⟨w', hrun, hown, hgr⟩ := run_make_full (P := G.P) w 0 t e ie ze te.size hue hse.info hse.zero hse.size.symm k k' N hbn (by simp [maxLen]; omega) (Nat.zero_le _)
  simp only [Int.toNat_natCast] at k2
  have hrows := make_rows (I := C.I) hse.zeros hz h4 h5 h6 N
  have hm := mapO_fa hz
  rw [hse.zeros] at hm
  have hcl : ∀ v ∈ zl, v.cells = [v] := fun v hv => by
    obtain ⟨q, hq⟩ := List.mem_iff_getElem?.1 hv
    obtain ⟨a, _, ha⟩ := fa_get' hm hq
    unfold ofS at ha
    split at ha <;> first | (cases ha; rfl) | cases ha
  have hec : (elemOf te.agg zl).cells = zl := by
    unfold elemOf
    cases hag : te.agg with
    | true => rfl
    | false =>
      have h8 : te.size = 1 := by rcases h6 with h | h; rw [hag] at h; cases h; exact h
      obtain ⟨x, rfl⟩ := List.length_eq_one_iff.1 (h5.trans h8)
      exact hcl x (by simp)
  have hzs : ze.cells.size = te.size := by have := fa_len hm; rw [← h5, ← this]; simp
  obtain ⟨C2, n0, n1, n2, n3⟩ := new_flat hw (es := List.replicate N (elemOf te.agg zl)) e te.size h4 h7 (pid rid i) k1 (pid_ge _ _) (fun x hx => by rw [List.eq_of_mem_replicate hx, hec]; exact h5) hrows.1 (by simpa using hown) hgr (fun b hb => by simp [Value.ownBlock] at hb; omega) (fun q c u hc hu T => by
    have hq : q < N * te.size := by
      have h9 := flatC_len (es := List.replicate N (elemOf te.agg zl)) (sz := te.size) (fun x hx => by rw [List.eq_of_mem_replicate hx, hec]; exact h5)
      rw [List.length_replicate] at h9
      rw [← h9]; exact (List.getElem?_eq_some_iff.1 hc).1
    have hqm : q % te.size < te.size := Nat.mod_lt _ h4
    have hqd : q / te.size < N := by rw [Nat.div_lt_iff_lt_mul h4]; exact hq
    have e1 : (flatC (List.replicate N (elemOf te.agg zl)))[q / te.size * te.size + q % te.size]? = some zl[q % te.size] := flat_get (fun x hx => by rw [List.eq_of_mem_replicate hx, hec]; exact h5) (e := elemOf te.agg zl) (by rw [List.getElem?_replicate, if_pos hqd]) (by rw [hec]; exact List.getElem?_eq_getElem (by omega))
    rw [show q / te.size * te.size + q % te.size = q by rw [Nat.mul_comm]; exact Nat.div_add_mod q te.size, hc] at e1
    have hcell : (madeCells ze.cells (N * te.size)).toList[q]? = some (ze.cells[q % te.size]!) := by simp [madeCells, hq, hzs]
    rw [hcell] at hu
    cases hu
    cases e1
    obtain ⟨a, ha1, ha2⟩ := fa_get' hm (i := q % te.size) (b := zl[q % te.size]) (List.getElem?_eq_getElem (by omega))
    have e3 : a = ze.cells[q % te.size]! := by
      have : q % te.size < ze.cells.size := by omega
      rw [Array.getElem?_toList] at ha1
      simp [this] at ha1
      simp [this, ha1]
    rw [← e3]
    exact ofS_tree _ _ _ ha2)
  refine ⟨_, w', by simpa using hrun, _, C2, _, k2, ⟨rfl, 0, te.size, _, n0, Nat.le_refl _, fun _ => rfl⟩, n1, n2, n3⟩
theorem tlen_good (hw : WR C hp w) {P : Program} {t ti i d z} (hs : TiS P t ti i d z) {v : AV} {x : Value} {ty : TypeId} (hv : RepAV C v x) (h : tLen ti v hp K) :
    ∃ u a, (Builtin.len_ #[t] ty #[x]).run P w = .ok a w ∧ K u hp ∧ RepAV C u a := by
  have key : ∀ (a : Option Addr) (n cap : Nat), ti.sl.isSome = true → (Builtin.len_ #[t] ty #[.slice a n cap]).run P w = .ok (.int .i64 n) w := fun a n cap hsl => by
    obtain ⟨e, _, he⟩ := sl_und hs hsl
    simp [Builtin.len_, run_underlying he, goInt]
  unfold tLen at h
  split at h
  · rename_i id g
    obtain ⟨hsl, h⟩ := h
    split at h
    · rename_i e sz es g' hid
      obtain ⟨rfl, m, rfl, hk⟩ := h
      have ht := hw.tr id
      rw [hid] at ht
      obtain ⟨v0, hloc, hrep, _⟩ := ht
      obtain ⟨_, g3, sz3, v3, k1, k2, k3⟩ := hv
      rw [hloc] at k1; cases k1
      rw [k3 rfl]
      have hx : ∃ a cap, v0 = .slice a es.length cap := by
        generalize blk C id = F at hrep
        cases hrep with
        | row0 T F hF => exact ⟨_, _, rfl⟩
        | row es b cap T sz cur P F => exact ⟨_, _, rfl⟩
      obtain ⟨a, cap, rfl⟩ := hx
      exact ⟨_, _, key _ _ _ hsl, hk, .int _ _⟩
    · exact h.elim
  · exact h.elim
/-- Append, by cells. -/
theorem append_raw {P : Program} {t ty e : TypeId} {ti te : TI} {i d z ie de ze} (hs : TiS P t ti i d z) (he : ti.sl = some e) (hte : TiS P e te ie de ze) {v : Value} {n m cap' : Nat} {xs news : List Value} {ad : Addr} (hown : w.ownsRow 0 e te.size v n xs)
    (hnl : news.length = m * te.size) (hncell : ∀ (j : Nat) u, news[j]? = some u → w.cell? (ad.add j) = some u) (hn1 : ∀ u ∈ news, u.oneCell' = true)
    (hc : 0 < te.size ∧ te.zero.length = te.size ∧ n + m ≤ 9223372036854775807 ∧ (n + m) * te.bytes ≤ 140737488355328) :
    ∃ v' w', (Builtin.append_ #[t, t] ty #[v, .slice (some ad) m cap']).run P w = .ok v' w' ∧ w'.ownsRow 0 e te.size v' (n + m) (xs ++ news) ∧ w.grownBy w' v.ownBlock ∧ ∀ b, v'.ownBlock = some b → w.heap.size ≤ b ∨ v.ownBlock = some b := by
  have hd : d = .slice e := by have := hs.sl; rw [he] at this; cases d <;> simp [dSl] at this; rw [this]
  subst hd
  obtain ⟨h0, hz, h63, hbytes⟩ := hc
  have hxl : xs.length = n * te.size := hown.1
  have hsize := hte.size
  have hby := hte.bytes
  have hzs : ze.cells.size = te.size := by have := hte.zeros; rw [← hz, this]; simp
  have hmax : n + m ≤ maxLen := by simp [maxLen]; omega
  obtain ⟨v', w', hrun, hown', hgr, _⟩ := run_append_own (P := P) w 0 t ty e ie ze te.size te.bytes hs.und hte.info hte.zero hsize.symm hby.symm hzs h0 v n xs hown ad m cap' news hnl hncell hn1 hmax hbytes (Nat.zero_le _)
  refine ⟨v', w', hrun, hown', hgr, ?_⟩
  rcases hown.2 with ⟨rfl, hn⟩ | ⟨g, cap, cur, rfl, _, hb, hnc, hcm, hcs, htake⟩
  · intro b hb
    left
    subst hn
    have hx0 : xs = [] := List.eq_nil_of_length_eq_zero (by rw [hxl]; simp)
    have hnil := World.ownsRow_nil w w.heap.size e te.size
    obtain ⟨v2, w2, hrun2, hown2, _, _⟩ := run_append_own (P := P) w w.heap.size t ty e ie ze te.size te.bytes hs.und hte.info hte.zero hsize.symm hby.symm hzs h0 _ 0 [] hnil ad m cap' news hnl hncell hn1 (by omega) hbytes (Nat.le_refl _)
    rw [hrun] at hrun2
    cases hrun2
    exact (hown2.lt b hb).1
  · by_cases hroom : n + m ≤ cap
    · have hfit : n * ie.size + news.length ≤ cur.size := by
        rw [hnl, hcs, ← hsize, ← Nat.add_mul]; exact Nat.mul_le_mul_right _ hroom
      have hr := run_append_room (P := P) w t ty e ie hs.und hte.info g n cap cur hb ad m cap' news (by rw [← hsize]; exact hnl) hncell hn1 hroom hfit
      rw [hrun] at hr
      have e1 : v' = .slice (some ⟨g, 0, none⟩) (n + m) cap := by injection hr
      subst e1
      exact fun b hb => .inr hb
    · have hr := run_append_grow (P := P) w t ty e ie ze hs.und hte.info hte.zero ⟨g, 0, none⟩ n cap xs (by rw [← hsize]; exact hxl) (hown.cells (g := g) rfl) ad m cap' news (by rw [← hsize]; exact hnl) hncell (by omega) (by omega) (growslice_fits (by omega) (by rw [← hby]; exact hbytes))
      rw [hrun] at hr
      injection hr with e1 e2
      subst e1 e2
      intro b hb
      left
      simp [Value.ownBlock] at hb; omega
theorem tappend_good (hG : G.Ok) (hw : WR C hp w) {t ty : TypeId} {s x : AV} {sv xv : Value} (hs : RepAV C s sv) (hx : RepAV C x xv) (h : tAppend G t s x hp K) : ∃ u w', (Builtin.append_ #[t, t] ty #[sv, xv]).run G.P w = .ok u w' ∧ Step C w K u w' := by
  unfold tAppend at h
  split at h
  rotate_left
  · exact h.elim
  rename_i ti id g j gj hti
  obtain ⟨ii, d, z, hsi⟩ := ti_spec (hG.ti _ _ hti)
  split at h
  rotate_left
  · exact h.elim
  rename_i e he
  split at h
  rotate_left
  · exact h.elim
  rename_i te e1 sz1 es g1 e2 sz2 es2 g2 hte hid hjd
  obtain ⟨ie, de, ze, hse⟩ := ti_spec (hG.ti _ _ hte)
  rw [named_eq] at h
  obtain ⟨⟨rfl, rfl, rfl, rfl, rfl, rfl, hij, hne2⟩, hc, hszt, hk⟩ := h
  have hszt := Nat.eq_of_beq_eq_true hszt
  have hij : id ≠ j := fun e => by subst e; rw [Nat.beq_refl] at hij; cases hij
  have hes2 : es2 ≠ [] := fun e => by subst e; simp at hne2
  obtain ⟨b2, cap2, cur2, P2, hloc2, hz2, _, hbb2, hn2, hcs2, hsz2, h12, hh2, hPF2, hd2, hI2, hbF2, hrep2⟩ := tree_open hw j hjd hes2
  obtain ⟨C1, v1, hl1, hrep1, hfree, hI, hIn, hsub, hle, hwr, hst, hsame, _, _⟩ := take_tree' hw j e te.size gj es2 hjd
  rw [hloc2] at hl1; cases hl1
  obtain ⟨_, g3, sz3, v3, k1, k2, k3⟩ := hx
  rw [hloc2] at k1; cases k1
  have hxv := k3 rfl
  subst hxv
  have hid1 : (upd j (Ob.tree e te.size [] (gj + 1)) hp) id = some (.tree e te.size es g) := by simp [upd, hij, hid]
  obtain ⟨l, hloc, hob⟩ := hwr.ob id _ hid1
  cases l with
  | box _ => exact hob.elim
  | virt _ => exact hob.elim
  | own g5 sz5 v =>
    obtain ⟨rfl, rfl, hz, xs, hrow⟩ := hob
    have hloc0 : C.loc id = some (.own g te.size v) := by rw [← (hsame id hij).1]; exact hloc
    obtain ⟨_, g6, sz6, v6, q1, q2, q3⟩ := hs
    rw [hloc0] at q1; cases q1
    have hsv := q3 rfl
    subst hsv
    have ht := hwr.tr id
    rw [hid1] at ht
    obtain ⟨v7, hloc7, hrep, _⟩ := ht
    rw [hloc] at hloc7; cases hloc7
    obtain ⟨hsz1, hone, _⟩ := hrep.rowOf hrow hz
    have hcap2 : es2.length * te.size ≤ cur2.size := by rw [hcs2]; exact Nat.mul_le_mul_right _ hn2
    obtain ⟨v', w', hrun, hown', hgr, hblk⟩ := append_raw (w := w) (ty := ty) (cap' := cap2) hsi he hse hrow (news := segC cur2 0 (es2.length * te.size)) (m := es2.length) (ad := ⟨b2, 0, none⟩) (segC_len _ _ _) (fun i u hu => by
      obtain ⟨hi, rfl⟩ := segC_get.1 hu
      rw [Addr.add_lit, Nat.zero_add]
      exact cell_of hbb2 (by omega)) (fun u hu => by
      obtain ⟨i, hi⟩ := List.mem_iff_getElem?.1 hu
      obtain ⟨hi2, rfl⟩ := segC_get.1 hi
      rw [Nat.zero_add]; exact h12 i hi2) hc
    obtain ⟨C2, n1, n2, n3, n4⟩ := grow_tree hw hwr hst hI hsub id (es2 := es2) (xs2 := segC cur2 0 (es2.length * te.size)) (P := fun i k => i < es2.length * te.size ∧ P2 i k) hid1 hloc hz hszt hsz1 hsz2 hrow hone (by rw [flatC_len hsz2, segC_len]) (fun u hu => by
      obtain ⟨i, hi⟩ := List.mem_iff_getElem?.1 hu
      obtain ⟨hi2, rfl⟩ := segC_get.1 hi
      rw [Nat.zero_add]; exact h12 i hi2) (fun i c u hc hu => by
      obtain ⟨hi2, rfl⟩ := segC_get.1 hu
      rw [Nat.zero_add]
      have h9 := hh2 i c hc
      have e : P2 i = fun k => i < es2.length * te.size ∧ P2 i k := funext fun k => propext ⟨fun h => ⟨hi2, h⟩, fun h => h.2⟩
      rw [e] at h9; exact h9) (fun i k hk => by
      have hF := hPF2 i k hk.1 hk.2
      exact ⟨by rw [segC_len]; exact hk.1, hw.lt j k hF, fun q => hfree k q hF, fun q => by rw [hI]; exact hI2 k q hF, j, hF⟩) (fun i q k h1 h2 => hd2 i q k h1.1 h2.1 h1.2 h2.2) (by rw [List.length_append]; exact hown') hgr hblk (by simp [hes2])
    refine ⟨v', w', hrun, _, C2, _, hk, ⟨?_, g + 1, te.size, v', n1, Nat.le_refl _, fun _ => rfl⟩, hle.trans n2, n3, n4⟩
    rcases hown'.2 with ⟨rfl, _⟩ | ⟨_, _, _, rfl, _⟩ <;> rfl
theorem tre_good (hG : G.Ok) (hw : WR C hp w) (hρ : ∀ x, RepAV C (ρ x) (σ x)) (hσ : ∀ v, σ (.const v) = v) {h0 rid i : Nat} {o : Oper} (h : treP G h0 rid i o ρ hp K) : Good G C hp w K ((execOp σ o).run G.P w) := by
  obtain ⟨dst, op, ty, pos, aft, gd⟩ := o
  unfold treP at h
  unfold execOp
  simp only at h ⊢
  have mv : ∀ (cs : Array Value), (match mapO cellC cs.toList with
      | some cs => homesL G.tab.ty ty rid i 0 0 cs hp fun cs hp' => newOb rid i (.vbox cs) (.sp (pid rid i)) hp' K
      | none => False) → Step C w K (.agg cs) w := fun cs h => by
    split at h
    · rename_i as has
      obtain ⟨h1, h2⟩ := cellCs_rep C has
      have := vbox_step (p := 16) hw h1 h2 (Nat.le_refl _) h
      simpa using this
    · exact h.elim
  split at h
  · rename_i cs
    obtain ⟨v, C', hp', k1, k2, k3, k4, k5⟩ := mv cs h
    exact ⟨_, v, C', hp', w, .inl (by simp [hσ]), k1, k2, k3, k4, k5⟩
  · rename_i cs
    obtain ⟨v, C', hp', k1, k2, k3, k4, k5⟩ := mv cs h
    exact ⟨_, v, C', hp', w, .inl (by simp [hσ]), k1, k2, k3, k4, k5⟩
  · rename_i t ps
    split at h
    rotate_left
    · exact h.elim
    rename_i ti hti
    obtain ⟨ii, d, z, hs⟩ := ti_spec (hG.ti _ _ hti)
    split at h
    rotate_left
    · exact h.elim
    rename_i l hl
    obtain ⟨⟨hfe, hzc⟩, h⟩ := h
    split at h
    rotate_left
    · exact h.elim
    rename_i cs hcs
    have hone : ∀ u ∈ ti.zero, u.oneCell' = true := fun u hu => by
      have := List.all_eq_true.1 hzc u hu
      obtain ⟨a, ha⟩ := Option.isSome_iff_exists.1 this
      exact (cellC_rep C ha).2
    obtain ⟨us', hf, hfa', hone'⟩ := fillA_sound (elemsA_rep hw hρ hσ hl) (fa_map_l (f := ofC) (fa_of rfl (fun i a b h1 h2 => by rw [h1] at h2; cases h2; exact ofC_rep C _))) hone hcs
    rw [hs.zeros] at hf
    simp only [Array.toArray_toList] at hf
    have hb := built_of hs hfe hf
    have hrun := run_build w t (ps.map fun (i, x) => (i, σ x)) us'.toArray (by simpa using hb)
    exact good_step hrun (vbox_step (p := 16) hw hfa' hone' (Nat.le_refl _) h)
  · rename_i t len ps
    split at h
    rotate_left
    · exact h.elim
    rename_i ti hti
    obtain ⟨ii, d, z, hs⟩ := ti_spec (hG.ti _ _ hti)
    split at h
    rotate_left
    · exact h.elim
    rename_i e he
    split at h
    rotate_left
    · exact h.elim
    rename_i te hte
    obtain ⟨ie, de, ze, hse⟩ := ti_spec (hG.ti _ _ hte)
    split at h
    rotate_left
    · exact h.elim
    rename_i zl l hz hl
    obtain ⟨⟨h0, h24, hzl, hag, hszt⟩, h⟩ := h
    split at h
    rotate_left
    · exact h.elim
    rename_i hr hall
    have hps := elemsA_rep hw hρ hσ hl
    have hidx : l.map (·.1) = List.range len := by simpa using hr
    have hlen : l.length = len := by have := congrArg List.length hidx; simpa using this
    have hpl : ps.toList.length = len := by have := fa_len hps; rw [hlen] at this; simpa using this.symm
    have hvc : ∀ v ∈ ps.toList.map (fun p => σ p.2), v.cells.size = te.size := fun v hv => by
      obtain ⟨p, hp, rfl⟩ := List.mem_map.1 hv
      obtain ⟨j, hj⟩ := List.mem_iff_getElem?.1 hp
      obtain ⟨a, ha, hh⟩ := fa_get' (i := j) hps (by rw [List.getElem?_map, hj]; rfl)
      have h5 := List.all_eq_true.1 hall a (List.mem_iff_getElem?.2 ⟨j, ha⟩)
      have h6 := fa_len hh.2.1
      simp at h5 h6
      omega
    have hfl : ∀ {l : List (Nat × List A0)} {m : List (Nat × Value)}, FA (fun a (b : Nat × Value) => a.1 = b.1 ∧ FA (RepA C) a.2 b.2.cells.toList ∧ ∀ u ∈ b.2.cells.toList, u.oneCell' = true) l m → FA (RepA C) (l.flatMap (·.2)) (m.flatMap fun p => p.2.cells.toList) ∧ ∀ u ∈ m.flatMap (fun p => p.2.cells.toList), u.oneCell' = true := fun h => by
      induction h with
      | nil => exact ⟨.nil, by simp⟩
      | cons hab _ ih =>
        rw [List.flatMap_cons, List.flatMap_cons]
        exact ⟨fa_app hab.2.1 ih.1, fun u hu => (List.mem_append.1 hu).elim (hab.2.2 u) (ih.2 u)⟩
    obtain ⟨hfa, hone⟩ := hfl hps
    have hmm : (ps.toList.map fun p => (p.1, σ p.2)).flatMap (fun p => p.2.cells.toList) = (ps.toList.map fun p => σ p.2).flatMap fun v => v.cells.toList := by
      simp only [List.flatMap_map]
    rw [hmm] at hfa hone
    obtain ⟨C', hp', vs, ts, P, ⟨hok, hk⟩, q2, q2t, q3, q4, q5, q6, q7, q8, q9, q10⟩ := takeL_sound _ hw hfa h
    rw [named_eq] at hk
    obtain ⟨hn, hk⟩ := hk
    have hxl : ((ps.toList.map fun p => σ p.2).flatMap fun v => v.cells.toList).length = len * te.size := by
      have := flat_len _ hvc
      rwa [List.length_map, hpl] at this
    have hcell1 : ∀ v ∈ vs, v.cells = [v] := fun v hv => by
      obtain ⟨j, hj⟩ := List.mem_iff_getElem?.1 hv
      have hjl : j < ((ps.toList.map fun p => σ p.2).flatMap fun v => v.cells.toList).length := by rw [← q2]; exact (List.getElem?_eq_some_iff.1 hj).1
      exact (q3 j v _ hj (List.getElem?_eq_getElem hjl) (match ts[j]? with | some (some e) => e | _ => 0) (fun t ht e he => by subst he; rw [ht])).cell1
    obtain ⟨c1, c2, c3⟩ := chunk_flat h0 hag len vs (by rw [q2, hxl]) hcell1
    obtain ⟨C2, n1, n2, n3, n4⟩ := new_tree hw (es := chunkV te.agg te.size len vs) e te.size h0 hszt c2 (by rw [c1, q2]) (by rw [c3]; have : len ≤ len * te.size := Nat.le_mul_of_pos_right _ h0; simp [maxLen]; omega) hone (pid rid i) hn (pid_ge _ _) (fun j c u hc hu => by
      rw [c1] at hc
      exact q3 j c u hc hu _ fun t ht => by have := okTs_ok hok j t ht; rwa [Nat.zero_add] at this) q4 q5 q6 q7 q9 q10
    rw [c3] at n1
    have hue : G.P.underlying t = some (.slice e) := by
      obtain ⟨e', he', hh⟩ := sl_und hs (by rw [he]; rfl)
      rw [he] at he'; cases he'; exact hh
    by_cases hl0 : len = 0
    · subst hl0
      have hpe : ps.toList = [] := List.eq_nil_of_length_eq_zero hpl
      have hpe' : ps = #[] := by apply Array.ext'; simpa using hpe
      subst hpe'
      refine good_step (x := .slice (some ⟨w.heap.size, 0, none⟩) 0 0) (w' := w.alloc (.cells #[] e)) ?_ ⟨_, _, _, hk, ⟨rfl, 0, te.size, _, n1, Nat.le_refl _, fun _ => rfl⟩, q8.trans n2, by simpa using n3, by simpa using n4⟩
      simp [Instr.buildSlice, run_underlying hue, run_sizeOf hse, Instr.fill, newRow]
      congr 2
      exact Array.eq_empty_of_size_eq_zero (by simp)
    · have hz' : ze.cells.size = te.size := by
        have h9 := hse.zeros
        have h10 := fa_len (mapO_fa hz)
        rw [h9] at h10; rw [← hzl, ← h10]; simp
      have hpos : ¬ len * ie.size = 0 := by
        rw [← hse.size]; exact Nat.mul_ne_zero hl0 (by omega)
      have hparts : (ps.map fun (i, x) => (i, σ x)).toList = (((ps.toList.map fun p => σ p.2).zipIdx 0).map fun x => (x.2, x.1)) := by
        apply List.ext_getElem?
        intro j
        simp only [Array.toList_map, List.getElem?_map, List.getElem?_zipIdx, Nat.zero_add]
        cases hj : ps.toList[j]? with
        | none => simp
        | some p =>
          simp only [Option.map_some, Option.some.injEq, Prod.mk.injEq, and_true]
          obtain ⟨a, ha, hh⟩ := fa_get' (i := j) hps (by rw [List.getElem?_map, hj]; rfl)
          have h7 : (l.map (·.1))[j]? = some a.1 := by rw [List.getElem?_map, ha]; rfl
          have hjl : j < len := by rw [← hpl]; exact (List.getElem?_eq_some_iff.1 hj).1
          rw [hidx, List.getElem?_range hjl] at h7
          have h8 := hh.1
          simp at h7 h8
          omega
      have hfw := Go.Great.fill_whole h0 (ps.toList.map fun p => σ p.2) ((Array.range (len * ie.size)).map (ze.cells[· % ze.cells.size]!)) hvc (by simp [hpl, hse.size])
      rw [← hparts, hse.size] at hfw
      have hrun := Go.run_buildSlice w t e len (ps.map fun (i, x) => (i, σ x)) _ ie ze hue hse.info hse.zero (by rw [← hse.size]; omega) hpos hfw
      exact good_step hrun ⟨_, _, _, hk, ⟨rfl, 0, te.size, _, n1, Nat.le_refl _, fun _ => rfl⟩, q8.trans n2, n3, n4⟩
  · rename_i t a
    obtain ⟨y, hy, hst⟩ := tload_good hG hw (hρ a) h
    exact good_step hy hst
  · rename_i t a x
    have hx := hρ x
    split at h
    · rename_i j hj
      rw [hj] at hx
      obtain ⟨w', h1, v, C', hp', k1, k2, k3, k4, k5⟩ := tput_good hG hw (hρ a) hx h
      exact ⟨undef, v, C', hp', w', .inr ⟨by simp [h1], rfl⟩, k1, k2, k3, k4, k5⟩
    · obtain ⟨w', h1, v, C', hp', k1, k2, k3, k4, k5⟩ := tstore_good hG hw (hρ a) hx h
      exact ⟨undef, v, C', hp', w', .inr ⟨by simp [h1], rfl⟩, k1, k2, k3, k4, k5⟩
  · rename_i t l c
    obtain ⟨y, w', h1, hst⟩ := tmake_good hG hw (hρ l) (hρ c) h
    exact good_step h1 hst
  · rename_i t x ix
    dsimp only
    have hx := hρ x
    have hix := hρ ix
    split at h
    rotate_left
    · exact h.elim
    rename_i ti id g k n hti hq hqi
    rw [hq] at hx
    rw [hqi] at hix
    have hi' : RepV C.I (.int k n) (σ ix) := hix
    generalize σ ix = iv at *
    cases hi'
    obtain ⟨ii, d, z, hs⟩ := ti_spec (hG.ti _ _ hti)
    split at h
    rotate_left
    · exact h.elim
    rename_i e he
    have hue : G.P.underlying t = some (.slice e) := by
      obtain ⟨e', he', hh⟩ := sl_und hs (by rw [he]; rfl)
      rw [he] at he'; cases he'; exact hh
    split at h
    rotate_left
    · exact h.elim
    rename_i te e' sz es g' hte hcs
    obtain ⟨ie, de, ze, hse⟩ := ti_spec (hG.ti _ _ hte)
    obtain ⟨rfl, rfl, h0, hlt, h⟩ := h
    obtain ⟨N, rfl⟩ := Int.eq_ofNat_of_zero_le h0
    have hne : es ≠ [] := fun e => by subst e; simp at hlt; omega
    obtain ⟨b, cap, cur, P, hloc, hz, hzt, hbb, hn, hcs2, hsz1, h1, hh, hPF, hd, hI0, hbF, hrep⟩ := tree_open hw id hcs hne
    obtain ⟨_, g3, sz3, v3, k1, k2, k3⟩ := hx
    rw [hloc] at k1; cases k1
    rw [k3 rfl]
    refine good_pure hw (x := .pointer (some ⟨b, 0 + N * te.size, none⟩)) ?_ h ⟨⟨_, rfl⟩, g, te.size, _, hloc, Nat.le_refl _, fun _ => ⟨b, _, _, rfl, by simp⟩⟩
    simp only [Instr.indexAt, Sem.run_bind, asIntOf, Sem.run_pure, Result.andThen_ok, run_underlying hue, h0, hlt, and_self, if_true, run_sizeOf hse, Int.toNat_natCast, Addr.add_lit]
  · rename_i c
    obtain ⟨cal, args, ats⟩ := c
    simp only at h
    split at h
    rotate_left
    · exact h.elim
    rename_i b
    simp only at h ⊢
    split at h
    · rename_i x t hargs hats
      have ha : args = #[x] := by apply Array.ext'; simpa using hargs
      have ht : ats = #[t] := by apply Array.ext'; simpa using hats
      subst ha ht
      split at h
      rotate_left
      · exact h.elim
      rename_i ti hti
      obtain ⟨ii, d, z, hs⟩ := ti_spec (hG.ti _ _ hti)
      obtain ⟨u, a, h1, h2, h3⟩ := tlen_good (ty := ty) hw hs (hρ x) h
      refine Good.pure (x := a) hw ?_ h2 h3
      simp [resolve, invoke, builtin, h1]
    · rename_i s x t t' hargs hats
      have ha : args = #[s, x] := by apply Array.ext'; simpa using hargs
      have ht : ats = #[t, t'] := by apply Array.ext'; simpa using hats
      subst ha ht
      obtain ⟨rfl, h⟩ := h
      obtain ⟨u, w', h1, v, C', hp', k1, k2, k3, k4, k5⟩ := tappend_good (ty := ty) hG hw (hρ s) (hρ x) h
      refine ⟨u, v, C', hp', w', .inl ?_, k1, k2, k3, k4, k5⟩
      simp [resolve, invoke, builtin, h1]
    · exact h.elim
  · exact h.elim
theorem join_step {C : Cx G.tab} {w w' : World} {n : Nat} {x : Value} (h : Step C w (fun v hp' => joinP G n hp' (K v)) x w') : Step C w K x w' := by
  obtain ⟨v, C', hp', hk, hv, hl, hw, hs⟩ := h
  unfold joinP at hk
  split at hk
  rotate_left
  · exact hk.elim
  rename_i e sz es g k off j hid
  split at hk
  rotate_left
  · exact hk.elim
  rename_i e2 sz2 ks g2 hj
  obtain ⟨⟨rfl, hee⟩, u, hu, hk⟩ := hk
  have hee := Nat.eq_of_beq_eq_true hee
  subst hee
  split at hk
  rotate_left
  · exact hk.elim
  rename_i u' hst
  rw [named_eq] at hk
  obtain ⟨C2, n1, n2, n3⟩ := join_tree hw n hid hj hu hst
  refine ⟨v, C2, _, hk, hv.mono n1, hl.trans n1, n2, hs.trans n3⟩
end
end Go.Proofs.YtccldchklemogaaW.AM
