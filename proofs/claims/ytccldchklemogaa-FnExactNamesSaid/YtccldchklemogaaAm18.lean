/- What Go's library does, told by contracts: calls that make nothing, and calls that sort a row of the call's own. -/
import Derived.Test.YtccldchklemogaaAm17
import Derived.Lib.SlKeysI
import Derived.Lib.OwnBridge
import Derived.Lib.SlicesCompact
import Derived.Lib.Join
set_option linter.unusedVariables false
set_option linter.unusedSimpArgs false
namespace Go.Proofs.YtccldchklemogaaW.AM
open Go Go.RowKit Go.Sort

theorem below_grow (w : World) (k : Nat) (os : Array Obj) : Below w.heap.size w (grow (w.drewN k) os) :=
  ⟨rfl, rfl, rfl, by simp [grow, World.drewN], fun i hi => by
    show ((w.drewN k).heap ++ os)[i]? = w.heap[i]?
    exact Array.getElem?_append_left hi⟩
theorem row_strs {I : Nat → Nat → Option Value} {l : List ByteArray} {x : Value} (h : RepV I (.row (l.map VV.str)) x) :
    (l = [] ∧ ∃ a c, x = .slice a 0 c) ∨ ∃ b off c, x = .slice (some ⟨b, off, none⟩) l.length c ∧ l ≠ [] ∧ l.length ≤ c ∧ ∀ (j : Nat) s, l[j]? = some s → I b (off + j) = some (.string s) := by
  generalize he : l.map VV.str = es at h
  cases h with
  | row0 a cap h0 =>
    left
    exact ⟨List.map_eq_nil_iff.1 he, a, cap, rfl⟩
  | row es b off cap sz u hsz hc hI h1 hs hh =>
    subst he
    by_cases hn : l = []
    · subst hn; exact .inl ⟨rfl, _, _, rfl⟩
    · right
      have h0 : ∃ s, l[0]? = some s := by cases l with | nil => exact absurd rfl hn | cons a t => exact ⟨a, rfl⟩
      obtain ⟨s0, h0⟩ := h0
      have e1 : sz = 1 := by
        have := hs 0 (.str s0) (by rw [List.getElem?_map, h0]; rfl)
        exact this.symm
      subst e1
      refine ⟨b, off, cap, by simp, hn, by simpa using hc, fun j s hj => ?_⟩
      have hjl : j < l.length := (List.getElem?_eq_some_iff.1 hj).1
      have k1 := hI j (by simp; omega)
      have k2 := hh j (.str s) 0 (.str s) (by rw [List.getElem?_map, hj]; rfl) rfl
      rw [Nat.mul_one, Nat.add_zero] at k2
      rw [k1]
      generalize u j = y at k2
      cases k2; rfl
/-- strings.Join at a row that stands. -/
theorem join_call {P : Program} {f : FuncId} {I : Nat → Nat → Option Value} {w : World} (hI : ∀ b j v, I b j = some v → cellI w b j = some v) {l : List ByteArray} {c : ByteArray} {x : Value} (h : RepV I (.row (l.map VV.str)) x)
    (hN : l.length ≤ 140737488355328) (hL : (Lib.join (l.map (·.data.toList)) c.data.toList).length ≤ 140737488355328)
    (h0 : ∀ (a : Option Addr) (k : Nat) (sep : ByteArray) (w : World), Calls P f #[.slice a 0 k, .string sep] w fun e w' => e = .returned (.string ⟨#[]⟩) ∧ w' = w)
    (h1 : ∀ (bk o c : Nat) (xs : List ByteArray) (sep : ByteArray) (w : World) (_ : ∀ (j : Nat) x, xs[j]? = some x → w.cell? ⟨bk, o + j, none⟩ = some (.string x)) (_ : bk < w.heap.size) (_ : xs.length ≤ 140737488355328) (_ : xs.length ≤ c) (_ : (Lib.join (xs.map (·.data.toList)) sep.data.toList).length ≤ 140737488355328),
      Calls P f #[.slice (some ⟨bk, o, none⟩) xs.length c, .string sep] w fun e w' => e = .returned (.string ⟨(Lib.join (xs.map (·.data.toList)) sep.data.toList).toArray⟩) ∧ Below w.heap.size w w') :
    Calls P f #[x, .string c] w fun e w' => ∃ y, e = .returned y ∧ RepV I (.str ⟨(Lib.join (l.map (·.data.toList)) c.data.toList).toArray⟩) y ∧ Below w.heap.size w w' := by
  rcases row_strs h with ⟨rfl, a, k, rfl⟩ | ⟨b, off, k, rfl, hn, hle, hcl⟩
  · refine (h0 a k c w).mono ?_
    rintro e w' ⟨rfl, rfl⟩
    exact ⟨_, rfl, RepV.str _, Below.refl _ _⟩
  · obtain ⟨s0, h2⟩ : ∃ s, l[0]? = some s := by cases l with | nil => exact absurd rfl hn | cons a t => exact ⟨a, rfl⟩
    refine (h1 b off k l c w (fun j s hj => hI _ _ _ (hcl j s hj)) (block_lt_of_cell (hI _ _ _ (hcl 0 s0 h2))) hN hle hL).mono ?_
    rintro e w' ⟨rfl, hb⟩
    exact ⟨_, rfl, RepV.str _, hb⟩
theorem orc_pure {G : Env} {f : FuncId} {as : List A0} {v : VV} {C : Cx G.tab} {w : World} {args : List Value} (hargs : FA (RepA C) as args) (hw : WR C (heap0 []) w) (hv : ∀ a ∈ as, ∃ u, a = A0.val u)
    (hc : ∀ (I : Nat → Nat → Option Value) (w : World) (args : List Value), (∀ b j v, I b j = some v → cellI w b j = some v) → TabW G.tab w → FA (fun a x => ∃ u, a = A0.val u ∧ RepV I u x) as args → Calls G.P f args.toArray w fun e w' => ∃ x, e = .returned x ∧ RepV I v x ∧ Below w.heap.size w w') :
    Calls G.P f args.toArray w fun e w' => ∃ (x : Value) (C' : Cx G.tab), e = .returned x ∧ RepAV C' (tupOf [.val v]) x ∧ WR C' (heapN ([] : List Ob).length []) w' ∧ Stp C C' w w' ∧ ([] : List Ob).length ≤ ([] : List Ob).length := by
  refine (hc C.I w args hw.inI ⟨fun b j v h => hw.inI _ _ _ (hw.inT _ _ _ h), fun b n h => (hw.inZ b n h).1⟩ (fa_of (fa_len hargs) fun i a x ha hx => ?_)).mono ?_
  · obtain ⟨u, rfl⟩ := hv a (List.mem_iff_getElem?.2 ⟨i, ha⟩)
    obtain ⟨x', hx', hr⟩ := fa_get hargs ha
    rw [hx] at hx'; cases hx'
    exact ⟨u, rfl, hr⟩
  · rintro e w' ⟨x, rfl, hx, hb⟩
    refine ⟨x, C, rfl, hx, ?_, Stp.keep hb.os hb.tape hb.output hb.size hb.block, Nat.le_refl _⟩
    have hw := hw.keep hb.size hb.block
    refine ⟨hw.inI, fun id _ => hw.dom id (by simp [heap0]), fun id o h => ?_, hw.sep, hw.lt, hw.inT, hw.inZ, fun id => by rw [heapN_nil]; exact hw.tr id⟩
    obtain ⟨k, _, h1⟩ := heapN_inv (by simp) h
    simp at h1
theorem orc_dead {G : Env} {f : FuncId} {as : List A0} {v : VV} {C : Cx G.tab} {w : World} {args : List Value} (hargs : FA (RepA C) as args) (hw : WR C (heap0 []) w) (hv : ∀ a ∈ as, ∃ u, a = A0.val u)
    (hc : ∀ (I : Nat → Nat → Option Value) (w : World) (args : List Value), (∀ b j v, I b j = some v → cellI w b j = some v) → TabW G.tab w → FA (fun a x => ∃ u, a = A0.val u ∧ RepV I u x) as args → Calls G.P f args.toArray w fun e w' => ∃ x y, e = .returned (.tuple #[x, y]) ∧ RepV I v x ∧ Below w.heap.size w w') :
    Calls G.P f args.toArray w fun e w' => ∃ (x : Value) (C' : Cx G.tab), e = .returned x ∧ RepAV C' (tupOf [.val v, .dead]) x ∧ WR C' (heapN ([] : List Ob).length []) w' ∧ Stp C C' w w' ∧ ([] : List Ob).length ≤ ([] : List Ob).length := by
  refine (hc C.I w args hw.inI ⟨fun b j v h => hw.inI _ _ _ (hw.inT _ _ _ h), fun b n h => (hw.inZ b n h).1⟩ (fa_of (fa_len hargs) fun i a x ha hx => ?_)).mono ?_
  · obtain ⟨u, rfl⟩ := hv a (List.mem_iff_getElem?.2 ⟨i, ha⟩)
    obtain ⟨x', hx', hr⟩ := fa_get hargs ha
    rw [hx] at hx'; cases hx'
    exact ⟨u, rfl, hr⟩
  · rintro e w' ⟨x, y, rfl, hx, hb⟩
    refine ⟨_, C, rfl, ⟨[x, y], rfl, .cons hx (.cons trivial .nil)⟩, ?_, Stp.keep hb.os hb.tape hb.output hb.size hb.block, Nat.le_refl _⟩
    have hw := hw.keep hb.size hb.block
    refine ⟨hw.inI, fun id _ => hw.dom id (by simp [heap0]), fun id o h => ?_, hw.sep, hw.lt, hw.inT, hw.inZ, fun id => by rw [heapN_nil]; exact hw.tr id⟩
    obtain ⟨k, _, h1⟩ := heapN_inv (by simp) h
    simp at h1
/-- A call that turns a row of the call's own, as long as it was. -/
theorem orc_own {G : Env} {f : FuncId} {e g : Nat} {es es' : List VV} {C : Cx G.tab} {w : World} {args : List Value} (hargs : FA (RepA C) [.ref 0 g] args) (hw : WR C (heap0 [.own e 1 es g false]) w) (hlen : es'.length = es.length)
    (h0 : es = [] → Calls G.P f #[.slice none 0 0] w fun e w' => e = .returned (.tuple #[]) ∧ w' = w)
    (h1 : ∀ b cap cur, w.heap[b]? = some (.cells cur e (0, 0)) → es.length ≤ cap → cap ≤ maxLen → cur.size = cap * 1 → RowR C.I 1 es (cur.toList.take (es.length * 1)) → (cur.toList.take (es.length * 1)).length = es.length * 1 →
      Calls G.P f #[.slice (some ⟨b, 0, none⟩) es.length cap] w fun e' w' => e' = .returned (.tuple #[]) ∧ ∃ xs', w'.ownsRow 0 e 1 (.slice (some ⟨b, 0, none⟩) es.length cap) es.length xs' ∧ RowR C.I 1 es' xs' ∧ w.grownBy w' (some b)) :
    Calls G.P f args.toArray w fun e' w' => ∃ (x : Value) (C' : Cx G.tab), e' = .returned x ∧ RepAV C' (tupOf []) x ∧ WR C' (heapN [Ob.own e 1 es g false].length [.own e 1 es' g false]) w' ∧ Stp C C' w w' ∧ [Ob.own e 1 es g false].length ≤ [Ob.own e 1 es' g false].length := by
  cases hargs with
  | cons hx ht => cases ht with
    | nil =>
      rename_i x
      have hid : heap0 [Ob.own e 1 es g false] 0 = some (.own e 1 es g false) := rfl
      obtain ⟨l, hloc, hob⟩ := hw.ob _ _ hid
      cases l with
      | virt _ => exact hob.elim
      | box b => exact hob.elim
      | own g2 sz2 v =>
        obtain ⟨rfl, rfl, hsz, xs, hrow, hrr, hpin⟩ := hob
        obtain ⟨_, g3, sz3, v3, k1, k2, k3⟩ := hx
        rw [hloc] at k1; cases k1
        have hv := k3 rfl
        have hheap : ∀ (o : Ob) (hp : Hp), hp = heap0 [Ob.own e 1 es g false] → upd 0 o hp = heapN [Ob.own e 1 es g false].length [o] := fun o hp he => by
          subst he
          funext j
          unfold upd heapN heap0
          by_cases hj : j = 0
          · subst hj; rfl
          · rw [if_neg hj]
            have hb : Nat.blt j [Ob.own e 1 es g false].length = false := blt_f (by simp; omega)
            rw [hb]
            simp only
            rw [List.getElem?_eq_none (by simp; omega)]
            split
            · rw [List.getElem?_eq_none (by simp)]
            · rfl
        rcases hrow.2 with ⟨he, hn⟩ | ⟨b, cap, cur, he, hb0, hb1, hnc, hcm, hcs, htake⟩
        · have hes : es = [] := List.eq_nil_of_length_eq_zero hn
          have hes' : es' = [] := List.eq_nil_of_length_eq_zero (by rw [hlen]; exact hn)
          subst hes hes'
          rw [hv, he]
          refine (h0 rfl).mono ?_
          rintro e' w' ⟨rfl, rfl⟩
          refine ⟨_, C, rfl, ⟨[], rfl, .nil⟩, ?_, Stp.refl _ _, Nat.le_refl _⟩
          rw [← hheap _ _ rfl]
          have : upd 0 (Ob.own e 1 [] g false) (heap0 [Ob.own e 1 [] g false]) = heap0 [Ob.own e 1 [] g false] := by
            funext j; unfold upd; split
            · rename_i hj; subst hj; rfl
            · rfl
          rw [this]; exact hw
        · rw [hv, he]
          refine (h1 b cap cur hb1 hnc hcm hcs (by rw [htake]; exact hrr) (by rw [htake]; exact hrow.1)).mono ?_
          rintro e' w' ⟨rfl, xs', hrow', hrr', hgr⟩
          obtain ⟨q1, q2, q3⟩ := next_own hw 0 e 1 g g es es' false false v v xs xs' hid hloc hsz (Nat.le_refl _) (fun _ => rfl) (by rw [he, hlen]; exact hrow') hrr' (by rw [he]; exact hgr) (fun b' hb' => .inr hb')
            (fun b' j u hb' hu => by have := (hpin b' j u hb' hu).1; cases this) (fun b' j u hb' hu => by have := (hpin b' j u hb' hu).1; cases this)
          refine ⟨_, _, rfl, ⟨[], rfl, .nil⟩, ?_, q3, Nat.le_refl _⟩
          rw [← hheap _ _ rfl]
          exact q2
theorem rowR_ints {I : Nat → Nat → Option Value} {zs : List Int} {xs : List Value} (h : RowR I 1 (zs.map (VV.int .i64)) xs) (hl : xs.length = zs.length) : xs = zs.map (Value.int .i64) := by
  apply List.ext_getElem?
  intro i
  rw [List.getElem?_map]
  by_cases hi : i < zs.length
  · obtain ⟨_, h2⟩ := h.2 i (VV.int .i64 zs[i]) (by simp [hi])
    obtain ⟨u, hu, hr⟩ := h2 0 (VV.int .i64 zs[i]) rfl
    rw [Nat.mul_one, Nat.add_zero] at hu
    rw [hu, List.getElem?_eq_getElem hi]
    cases hr; rfl
  · rw [List.getElem?_eq_none (by omega), List.getElem?_eq_none (by omega)]; rfl
theorem ints_rowR {I : Nat → Nat → Option Value} (zs : List Int) : RowR I 1 (zs.map (VV.int .i64)) (zs.map (Value.int .i64)) := by
  refine ⟨fun u hu => ?_, fun i e he => ?_⟩
  · obtain ⟨z, _, rfl⟩ := List.mem_map.1 hu; rfl
  · rw [List.getElem?_map] at he
    obtain ⟨z, hz, rfl⟩ := Option.map_eq_some_iff.1 he
    refine ⟨rfl, fun j c hc => ?_⟩
    have hj : j = 0 := by
      have := (List.getElem?_eq_some_iff.1 hc).1
      simp [VV.cells] at this; exact this
    subst hj
    cases hc
    exact ⟨.int .i64 z, by rw [Nat.mul_one, Nat.add_zero, List.getElem?_map, hz]; rfl, .int _ _⟩
def sortI (l : List Int) : List Int := l.mergeSort fun x y => decide (x ≤ y)
theorem sort_ints {G : Env} {f : FuncId} {e g : Nat} {zs : List Int} {C : Cx G.tab} {w : World} {args : List Value} (hargs : FA (RepA C) [.ref 0 g] args) (hw : WR C (heap0 [.own e 1 (zs.map (VV.int .i64)) g false]) w) (hsz : zs.length < 4611686018427387904)
    (h0 : ∀ (p : Option Addr) (cap : Nat) (w : World), Calls G.P f #[.slice p 0 cap] w fun e w' => e = .returned (.tuple #[]) ∧ w' = w)
    (h1 : ∀ (blk off cap : Nat) (zs : List Int) (w : World), Holds (Value.int .i64) w blk off zs.toArray → blk < w.heap.size → zs.length < 4611686018427387904 → Calls G.P f #[.slice (some ⟨blk, off, none⟩) zs.length cap] w fun e w' => e = .returned (.tuple #[]) ∧ ∃ n os, w' = grow (putRow (Value.int .i64) (Sort.ahead w n) blk off (zs.mergeSort fun x y => decide (x ≤ y)).toArray) os) :
    Calls G.P f args.toArray w fun e' w' => ∃ (x : Value) (C' : Cx G.tab), e' = .returned x ∧ RepAV C' (tupOf []) x ∧ WR C' (heapN [Ob.own e 1 (zs.map (VV.int .i64)) g false].length [.own e 1 ((sortI zs).map (VV.int .i64)) g false]) w' ∧ Stp C C' w w' ∧ [Ob.own e 1 (zs.map (VV.int .i64)) g false].length ≤ [Ob.own e 1 ((sortI zs).map (VV.int .i64)) g false].length := by
  refine orc_own hargs hw (by simp [sortI]) (fun _ => h0 _ _ _) fun b cap cur hb hnc hcm hcs hrr hln => ?_
  rw [List.length_map] at hnc hrr hln ⊢
  have hxs := rowR_ints hrr (by rw [hln, Nat.mul_one])
  rw [Nat.mul_one] at hxs
  have hlt : b < w.heap.size := (Array.getElem?_eq_some_iff.1 hb).1
  refine (h1 b 0 cap zs w (Go.Proofs.holds_of_block_i hb hxs) hlt hsz).mono ?_
  rintro e' w' ⟨rfl, n, os, rfl⟩
  exact ⟨rfl, _, Go.Proofs.ownsRow_sorted_i (by simp) (Nat.zero_le _) hb hnc hcm hcs, ints_rowR _, Go.Proofs.grownBy_sorted_i _⟩
/-! ### rows of texts -/
def unB (s : ByteArray) : List UInt8 := s.data.toList
def mkB (l : List UInt8) : ByteArray := ⟨l.toArray⟩
theorem mkB_un (s : ByteArray) : mkB (unB s) = s := by cases s; simp [mkB, unB]
theorem un_mkB (l : List UInt8) : unB (mkB l) = l := by simp [mkB, unB]
def sortS (l : List ByteArray) : List ByteArray := ((l.map unB).mergeSort fun x y => decide (x ≤ y)).map mkB
def compactS (l : List ByteArray) : List ByteArray := (Lib.compact (l.map unB)).map mkB
theorem map_enc (l : List ByteArray) : (l.map unB).map Go.Proofs.encStr = l.map Value.string := by
  rw [List.map_map]; apply List.map_congr_left; intro x _; cases x; simp [Go.Proofs.encStr, unB]
theorem map_enc' (l : List (List UInt8)) : l.map Go.Proofs.encStr = (l.map mkB).map Value.string := by
  rw [List.map_map]; apply List.map_congr_left; intro x _; simp [Go.Proofs.encStr, mkB]
theorem rowR_strs {I : Nat → Nat → Option Value} {zs : List ByteArray} {xs : List Value} (h : RowR I 1 (zs.map VV.str) xs) (hl : xs.length = zs.length) : xs = zs.map Value.string := by
  apply List.ext_getElem?
  intro i
  rw [List.getElem?_map]
  by_cases hi : i < zs.length
  · obtain ⟨_, h2⟩ := h.2 i (VV.str zs[i]) (by simp [hi])
    obtain ⟨u, hu, hr⟩ := h2 0 (VV.str zs[i]) rfl
    rw [Nat.mul_one, Nat.add_zero] at hu
    rw [hu, List.getElem?_eq_getElem hi]
    cases hr; rfl
  · rw [List.getElem?_eq_none (by omega), List.getElem?_eq_none (by omega)]; rfl
theorem strs_rowR {I : Nat → Nat → Option Value} (zs : List ByteArray) : RowR I 1 (zs.map VV.str) (zs.map Value.string) := by
  refine ⟨fun u hu => ?_, fun i e he => ?_⟩
  · obtain ⟨z, _, rfl⟩ := List.mem_map.1 hu; rfl
  · rw [List.getElem?_map] at he
    obtain ⟨z, hz, rfl⟩ := Option.map_eq_some_iff.1 he
    refine ⟨rfl, fun j c hc => ?_⟩
    have hj : j = 0 := by
      have := (List.getElem?_eq_some_iff.1 hc).1
      simp [VV.cells] at this; exact this
    subst hj
    cases hc
    exact ⟨.string z, by rw [Nat.mul_one, Nat.add_zero, List.getElem?_map, hz]; rfl, .str _⟩
theorem compact_le (zs : List (List UInt8)) : (Lib.compact zs).length ≤ zs.length := by
  unfold Lib.compact Lib.compactUpTo
  rw [List.length_map]
  exact Nat.le_trans (List.length_filter_le _ _) (by simp)
theorem compact_nil : Lib.compact ([] : List (List UInt8)) = [] := rfl
theorem owns_grow {w : World} {base e sz : Nat} {v : Value} {n : Nat} {xs : List Value} (os : Array Obj) (h : w.ownsRow base e sz v n xs) : (grow w os).ownsRow base e sz v n xs := by
  refine ⟨h.1, ?_⟩
  rcases h.2 with h2 | ⟨g, cap, cur, h1, h2, h3, h4⟩
  · exact .inl h2
  · refine .inr ⟨g, cap, cur, h1, h2, ?_, h4⟩
    rw [heap_grow_old _ _ (Array.getElem?_eq_some_iff.1 h3).1]
    exact h3
theorem grown_put {α : Type} [Inhabited α] {enc : α → Value} {w : World} {g n : Nat} {os : Array Obj} (d : Array α) : w.grownBy (grow (putRow enc (Sort.ahead w n) g 0 d) os) (some g) := by
  refine ⟨rfl, rfl, rfl, by simp [grow, putRow, mapBlock, Sort.ahead], fun k hk hne => ?_⟩
  rw [heap_grow_old _ _ (by simpa [putRow, mapBlock, Sort.ahead] using hk)]
  have : g ≠ k := fun e => hne (by rw [e])
  simp [putRow, mapBlock, Sort.ahead, Array.getElem?_modify, this]
theorem grown_put0 {α : Type} [Inhabited α] {enc : α → Value} {w : World} {g n : Nat} (d : Array α) : w.grownBy (putRow enc (Sort.ahead w n) g 0 d) (some g) := by
  refine ⟨rfl, rfl, rfl, by simp [putRow, mapBlock, Sort.ahead], fun k hk hne => ?_⟩
  have : g ≠ k := fun e => hne (by rw [e])
  simp [putRow, mapBlock, Sort.ahead, Array.getElem?_modify, this]
theorem sort_strs {G : Env} {f : FuncId} {e g : Nat} {zs : List ByteArray} {C : Cx G.tab} {w : World} {args : List Value} (hargs : FA (RepA C) [.ref 0 g] args) (hw : WR C (heap0 [.own e 1 (zs.map VV.str) g false]) w) (hsz : zs.length < 4611686018427387904)
    (h0 : ∀ (p : Option Addr) (cap : Nat) (w : World), Calls G.P f #[.slice p 0 cap] w fun e w' => e = .returned (.tuple #[]) ∧ w' = w)
    (h1 : ∀ (blk off cap : Nat) (zs : List (List UInt8)) (w : World), Holds Go.Proofs.encStr w blk off zs.toArray → blk < w.heap.size → zs.length < 4611686018427387904 → Calls G.P f #[.slice (some ⟨blk, off, none⟩) zs.length cap] w fun e w' => e = .returned (.tuple #[]) ∧ ∃ n os, w' = grow (putRow Go.Proofs.encStr (Sort.ahead w n) blk off (zs.mergeSort fun x y => decide (x ≤ y)).toArray) os) :
    Calls G.P f args.toArray w fun e' w' => ∃ (x : Value) (C' : Cx G.tab), e' = .returned x ∧ RepAV C' (tupOf []) x ∧ WR C' (heapN [Ob.own e 1 (zs.map VV.str) g false].length [.own e 1 ((sortS zs).map VV.str) g false]) w' ∧ Stp C C' w w' ∧ [Ob.own e 1 (zs.map VV.str) g false].length ≤ [Ob.own e 1 ((sortS zs).map VV.str) g false].length := by
  refine orc_own hargs hw (by simp [sortS]) (fun _ => h0 _ _ _) fun b cap cur hb hnc hcm hcs hrr hln => ?_
  rw [List.length_map] at hnc hrr hln ⊢
  have hxs := rowR_strs hrr (by rw [hln, Nat.mul_one])
  have hlt : b < w.heap.size := (Array.getElem?_eq_some_iff.1 hb).1
  have hown : w.ownsRow 0 e 1 (.slice (some ⟨b, 0, none⟩) zs.length cap) zs.length ((zs.map unB).map Go.Proofs.encStr) := ⟨by simp, .inr ⟨b, cap, cur, rfl, Nat.zero_le _, hb, hnc, hcm, hcs, by rw [hxs, map_enc]⟩⟩
  obtain ⟨g', cap', e1, _, _, _, _, _, hH⟩ := Lib.holds_of_ownsRow hown (by simp)
  cases e1
  have hl : (zs.map unB).length = zs.length := by simp
  have := h1 b 0 cap (zs.map unB) w hH hlt (by rw [hl]; exact hsz)
  rw [hl] at this
  refine this.mono ?_
  rintro e' w' ⟨rfl, n, os, rfl⟩
  have hy : ((zs.map unB).mergeSort fun x y => decide (x ≤ y)).length = zs.length := by simp
  have ho := Lib.ownsRow_putRow (q := n) hown hy (Nat.le_refl _)
  rw [List.take_of_length_le (by omega), map_enc'] at ho
  exact ⟨rfl, _, owns_grow os ho, strs_rowR _, grown_put _⟩
/-- A call that cuts a row of the call's own, and gives it back. -/
theorem compact_strs {G : Env} {f : FuncId} {e g : Nat} {zs : List ByteArray} {C : Cx G.tab} {w : World} {args : List Value} (hargs : FA (RepA C) [.ref 0 g] args) (hw : WR C (heap0 [.own e 1 (zs.map VV.str) g false]) w) (hsz : zs.length ≤ 9223372036854775807)
    (h0 : ∀ (p : Option Addr) (cap : Nat) (w : World), Calls G.P f #[.slice p 0 cap] w fun e w' => e = .returned (.slice p 0 cap) ∧ w' = w)
    (h1 : ∀ (blk off cap : Nat) (zs : List (List UInt8)) (w : World), Holds Go.Proofs.encStr w blk off zs.toArray → zs.length ≤ 9223372036854775807 → zs.length ≤ cap → Calls G.P f #[.slice (some ⟨blk, off, none⟩) zs.length cap] w fun e w' => e = .returned (.slice (some ⟨blk, off, none⟩) (Lib.compact zs).length cap) ∧ ∃ q, w' = putRow Go.Proofs.encStr (Sort.ahead w q) blk off (Lib.compact zs ++ List.replicate (zs.length - (Lib.compact zs).length) []).toArray)
    (hle : ∀ zs : List (List UInt8), (Lib.compact zs).length ≤ zs.length) (hnil : Lib.compact ([] : List (List UInt8)) = []) :
    Calls G.P f args.toArray w fun e' w' => ∃ (x : Value) (C' : Cx G.tab), e' = .returned x ∧ RepAV C' (tupOf [.ref 0 (g + 1)]) x ∧ WR C' (heapN [Ob.own e 1 (zs.map VV.str) g false].length [.own e 1 ((compactS zs).map VV.str) (g + 1) false]) w' ∧ Stp C C' w w' ∧ [Ob.own e 1 (zs.map VV.str) g false].length ≤ [Ob.own e 1 ((compactS zs).map VV.str) (g + 1) false].length := by
  cases hargs with
  | cons hx ht => cases ht with
    | nil =>
      rename_i x
      have hid : heap0 [Ob.own e 1 (zs.map VV.str) g false] 0 = some (.own e 1 (zs.map VV.str) g false) := rfl
      obtain ⟨l, hloc, hob⟩ := hw.ob _ _ hid
      cases l with
      | virt _ => exact hob.elim
      | box b => exact hob.elim
      | own g2 sz2 v =>
        obtain ⟨rfl, rfl, hsz1, xs, hrow, hrr, hpin⟩ := hob
        obtain ⟨h1c, g3, sz3, v3, k1, k2, k3⟩ := hx
        rw [hloc] at k1; cases k1
        have hv := k3 rfl
        have hheap : ∀ (o : Ob) (hp : Hp), hp = heap0 [Ob.own e 1 (zs.map VV.str) g false] → upd 0 o hp = heapN [Ob.own e 1 (zs.map VV.str) g false].length [o] := fun o hp he => by
          subst he
          funext j
          unfold upd heapN heap0
          by_cases hj : j = 0
          · subst hj; rfl
          · rw [if_neg hj]
            have hb : Nat.blt j [Ob.own e 1 (zs.map VV.str) g false].length = false := blt_f (by simp; omega)
            rw [hb]
            simp only
            rw [List.getElem?_eq_none (by simp; omega)]
            split
            · rw [List.getElem?_eq_none (by simp)]
            · rfl
        have hll : (zs.map VV.str).length = zs.length := by simp
        rw [hll] at hrow
        have hxs := rowR_strs hrr (by rw [hrow.1, Nat.mul_one])
        rcases hrow.2 with ⟨he, hn⟩ | ⟨b, cap, cur, he, hb0, hb1, hnc, hcm, hcs, htake⟩
        · have hz : zs = [] := List.eq_nil_of_length_eq_zero hn
          subst hz
          rw [hv, he]
          refine (h0 none 0 w).mono ?_
          rintro e' w' ⟨rfl, rfl⟩
          have hc0 : compactS [] = [] := by unfold compactS; rw [List.map_nil, hnil]; rfl
          rw [hc0]
          obtain ⟨q1, q2, q3⟩ := next_own hw 0 e 1 g (g + 1) [] [] false false v v xs xs hid hloc hsz1 (by omega) (by omega) (by simpa using hrow) hrr ⟨rfl, rfl, rfl, Nat.le_refl _, fun _ _ _ => rfl⟩ (fun b' hb' => .inr hb')
            (fun b' j u hb' hu => by have := (hpin b' j u hb' hu).1; cases this) (fun b' j u hb' hu => by have := (hpin b' j u hb' hu).1; cases this)
          refine ⟨_, _, rfl, ⟨rfl, g + 1, 1, v, Cx.set_same _ _ _, Nat.le_refl _, fun _ => he.symm⟩, ?_, q3, Nat.le_refl _⟩
          rw [← hheap _ _ rfl]; exact q2
        · have hown : w.ownsRow 0 e 1 (.slice (some ⟨b, 0, none⟩) zs.length cap) zs.length ((zs.map unB).map Go.Proofs.encStr) := by rw [map_enc, ← hxs, ← he]; exact hrow
          obtain ⟨g', cap', e1, _, hlt, _, _, _, hH⟩ := Lib.holds_of_ownsRow hown (by simp)
          cases e1
          have hl : (zs.map unB).length = zs.length := by simp
          have hc := hle (zs.map unB)
          rw [hl] at hc
          have hcall := h1 b 0 cap (zs.map unB) w hH (by rw [hl]; exact hsz) (by rw [hl]; exact hnc)
          rw [hl] at hcall
          rw [hv, he]
          refine hcall.mono ?_
          rintro e' w' ⟨rfl, q, rfl⟩
          have ho := Lib.ownsRow_putRow (q := q) (k := (Lib.compact (zs.map unB)).length) (ys := Lib.compact (zs.map unB) ++ List.replicate (zs.length - (Lib.compact (zs.map unB)).length) []) hown (by simp; omega) hc
          rw [List.take_left', map_enc'] at ho
          · have hcl : ((compactS zs).map VV.str).length = (Lib.compact (zs.map unB)).length := by simp [compactS]
            obtain ⟨q1, q2, q3⟩ := next_own hw 0 e 1 g (g + 1) (zs.map VV.str) ((compactS zs).map VV.str) false false v (.slice (some ⟨b, 0, none⟩) (Lib.compact (zs.map unB)).length cap) xs _ hid hloc hsz1 (by omega) (by omega) (by rw [hcl]; exact ho) (strs_rowR _) (by rw [he]; exact grown_put0 _) (fun b' hb' => .inr (by rw [he]; exact hb'))
              (fun b' j u hb' hu => by have := (hpin b' j u hb' hu).1; cases this) (fun b' j u hb' hu => by have := (hpin b' j u (by rw [he]; exact hb') hu).1; cases this)
            refine ⟨_, _, rfl, ⟨rfl, g + 1, 1, _, Cx.set_same _ _ _, Nat.le_refl _, fun _ => rfl⟩, ?_, q3, Nat.le_refl _⟩
            rw [← hheap _ _ rfl]; exact q2
          · rfl
end Go.Proofs.YtccldchklemogaaW.AM
