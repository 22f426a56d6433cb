/- What Go's library does, told by contracts: calls that make nothing, and calls that sort a row of the call's own. -/
import Derived.Test.YtfdpehmefgfjgaaAm17
import Derived.Lib.SlKeysI
import Derived.Lib.OwnBridge
set_option linter.unusedVariables false
set_option linter.unusedSimpArgs false
namespace Go.Proofs.YtfdpehmefgfjgaaW.AM
open Go Go.RowKit Go.Sort

theorem orc_pure {G : Env} {f : FuncId} {as : List A0} {v : VV} {C : Cx G.tab} {w : World} {args : List Value} (hargs : FA (RepA C) as args) (hw : WR C (heap0 []) w) (hv : ∀ a ∈ as, ∃ u, a = A0.val u)
    (hc : ∀ (I : Nat → Nat → Option Value) (w : World) (args : List Value), (∀ b j v, G.tab b j = some v → cellI w b j = some v) → FA (fun a x => ∃ u, a = A0.val u ∧ RepV I u x) as args → Calls G.P f args.toArray w fun e w' => ∃ x, e = .returned x ∧ RepV I v x ∧ Below w.heap.size w w') :
    Calls G.P f args.toArray w fun e w' => ∃ (x : Value) (C' : Cx G.tab), e = .returned x ∧ RepAV C' (tupOf [.val v]) x ∧ WR C' (heapN ([] : List Ob).length []) w' ∧ Stp C C' w w' ∧ ([] : List Ob).length ≤ ([] : List Ob).length := by
  refine (hc C.I w args (fun b j v h => hw.inI _ _ _ (hw.inT _ _ _ h)) (fa_of (fa_len hargs) fun i a x ha hx => ?_)).mono ?_
  · obtain ⟨u, rfl⟩ := hv a (List.mem_iff_getElem?.2 ⟨i, ha⟩)
    obtain ⟨x', hx', hr⟩ := fa_get hargs ha
    rw [hx] at hx'; cases hx'
    exact ⟨u, rfl, hr⟩
  · rintro e w' ⟨x, rfl, hx, hb⟩
    refine ⟨x, C, rfl, hx, ?_, Stp.keep hb.os hb.tape hb.output hb.size hb.block, Nat.le_refl _⟩
    have hw := hw.keep hb.size hb.block
    refine ⟨hw.inI, fun id _ => hw.dom id (by simp [heap0]), fun id o h => ?_, hw.sep, hw.lt, hw.inT⟩
    obtain ⟨k, _, h1⟩ := heapN_inv (by simp) h
    simp at h1
/-- A call that turns a row of the call's own, as long as it was. -/
theorem orc_own {G : Env} {f : FuncId} {e g : Nat} {es es' : List VV} {C : Cx G.tab} {w : World} {args : List Value} (hargs : FA (RepA C) [.ref 0 g] args) (hw : WR C (heap0 [.own e 1 es g false]) w) (hlen : es'.length = es.length)
    (h0 : es = [] → Calls G.P f #[.slice none 0 0] w fun e w' => e = .returned (.tuple #[]) ∧ w' = w)
    (h1 : ∀ b cap cur, w.heap[b]? = some (.cells cur e (0, 0)) → es.length ≤ cap → cap ≤ maxLen → cur.size = cap * 1 → RowR C.I 1 es (cur.toList.take (es.length * 1)) → (cur.toList.take (es.length * 1)).length = es.length * 1 →
      Calls G.P f #[.slice (some ⟨b, 0, none⟩) es.length cap] w fun e' w' => e' = .returned (.tuple #[]) ∧ ∃ xs', w'.ownsRow 0 e 1 (.slice (some ⟨b, 0, none⟩) es.length cap) es.length xs' ∧ RowR C.I 1 es' xs' ∧ w.grownBy w' (some b)) :
    Calls G.P f args.toArray w fun e' w' => ∃ (x : Value) (C' : Cx G.tab), e' = .returned x ∧ RepAV C' (tupOf []) x ∧ WR C' (heapN [Ob.own e 1 es g false].length [.own e 1 es' g false]) w' ∧ Stp C C' w w' ∧ [Ob.own e 1 es g false].length ≤ [Ob.own e 1 es' g false].length := by
  cases hargs with
  | cons hx ht => cases ht with
    | nil =>
      rename_i x
      have hid : heap0 [Ob.own e 1 es g false] 0 = some (.own e 1 es g false) := rfl
      obtain ⟨l, hloc, hob⟩ := hw.ob _ _ hid
      cases l with
      | box b => exact hob.elim
      | own g2 sz2 v =>
        obtain ⟨rfl, rfl, hsz, xs, hrow, hrr, hpin⟩ := hob
        obtain ⟨_, g3, sz3, v3, k1, k2, k3⟩ := hx
        rw [hloc] at k1; cases k1
        have hv := k3 rfl
        have hheap : ∀ (o : Ob) (hp : Hp), hp = heap0 [Ob.own e 1 es g false] → upd 0 o hp = heapN [Ob.own e 1 es g false].length [o] := fun o hp he => by
          subst he
          funext j
          unfold upd heapN heap0
          by_cases hj : j = 0
          · subst hj; rfl
          · rw [if_neg hj]
            have hb : Nat.blt j [Ob.own e 1 es g false].length = false := blt_f (by simp; omega)
            rw [hb]
            simp only
            rw [List.getElem?_eq_none (by simp; omega)]
            split
            · rw [List.getElem?_eq_none (by simp)]
            · rfl
        rcases hrow.2 with ⟨he, hn⟩ | ⟨b, cap, cur, he, hb0, hb1, hnc, hcm, hcs, htake⟩
        · have hes : es = [] := List.eq_nil_of_length_eq_zero hn
          have hes' : es' = [] := List.eq_nil_of_length_eq_zero (by rw [hlen]; exact hn)
          subst hes hes'
          rw [hv, he]
          refine (h0 rfl).mono ?_
          rintro e' w' ⟨rfl, rfl⟩
          refine ⟨_, C, rfl, ⟨[], rfl, .nil⟩, ?_, Stp.refl _ _, Nat.le_refl _⟩
          rw [← hheap _ _ rfl]
          have : upd 0 (Ob.own e 1 [] g false) (heap0 [Ob.own e 1 [] g false]) = heap0 [Ob.own e 1 [] g false] := by
            funext j; unfold upd; split
            · rename_i hj; subst hj; rfl
            · rfl
          rw [this]; exact hw
        · rw [hv, he]
          refine (h1 b cap cur hb1 hnc hcm hcs (by rw [htake]; exact hrr) (by rw [htake]; exact hrow.1)).mono ?_
          rintro e' w' ⟨rfl, xs', hrow', hrr', hgr⟩
          obtain ⟨q1, q2, q3⟩ := next_own hw 0 e 1 g g es es' false false v v xs xs' hid hloc hsz (Nat.le_refl _) (fun _ => rfl) (by rw [he, hlen]; exact hrow') hrr' (by rw [he]; exact hgr) (fun b' hb' => .inr hb')
            (fun b' j u hb' hu => by have := (hpin b' j u hb' hu).1; cases this) (fun b' j u hb' hu => by have := (hpin b' j u hb' hu).1; cases this)
          refine ⟨_, _, rfl, ⟨[], rfl, .nil⟩, ?_, q3, Nat.le_refl _⟩
          rw [← hheap _ _ rfl]
          exact q2
theorem rowR_ints {I : Nat → Nat → Option Value} {zs : List Int} {xs : List Value} (h : RowR I 1 (zs.map (VV.int .i64)) xs) (hl : xs.length = zs.length) : xs = zs.map (Value.int .i64) := by
  apply List.ext_getElem?
  intro i
  rw [List.getElem?_map]
  by_cases hi : i < zs.length
  · obtain ⟨_, h2⟩ := h.2 i (VV.int .i64 zs[i]) (by simp [hi])
    obtain ⟨u, hu, hr⟩ := h2 0 (VV.int .i64 zs[i]) rfl
    rw [Nat.mul_one, Nat.add_zero] at hu
    rw [hu, List.getElem?_eq_getElem hi]
    cases hr; rfl
  · rw [List.getElem?_eq_none (by omega), List.getElem?_eq_none (by omega)]; rfl
theorem ints_rowR {I : Nat → Nat → Option Value} (zs : List Int) : RowR I 1 (zs.map (VV.int .i64)) (zs.map (Value.int .i64)) := by
  refine ⟨fun u hu => ?_, fun i e he => ?_⟩
  · obtain ⟨z, _, rfl⟩ := List.mem_map.1 hu; rfl
  · rw [List.getElem?_map] at he
    obtain ⟨z, hz, rfl⟩ := Option.map_eq_some_iff.1 he
    refine ⟨rfl, fun j c hc => ?_⟩
    have hj : j = 0 := by
      have := (List.getElem?_eq_some_iff.1 hc).1
      simp [VV.cells] at this; exact this
    subst hj
    cases hc
    exact ⟨.int .i64 z, by rw [Nat.mul_one, Nat.add_zero, List.getElem?_map, hz]; rfl, .int _ _⟩
def sortI (l : List Int) : List Int := l.mergeSort fun x y => decide (x ≤ y)
theorem sort_ints {G : Env} {f : FuncId} {e g : Nat} {zs : List Int} {C : Cx G.tab} {w : World} {args : List Value} (hargs : FA (RepA C) [.ref 0 g] args) (hw : WR C (heap0 [.own e 1 (zs.map (VV.int .i64)) g false]) w) (hsz : zs.length < 4611686018427387904)
    (h0 : ∀ (p : Option Addr) (cap : Nat) (w : World), Calls G.P f #[.slice p 0 cap] w fun e w' => e = .returned (.tuple #[]) ∧ w' = w)
    (h1 : ∀ (blk off cap : Nat) (zs : List Int) (w : World), Holds (Value.int .i64) w blk off zs.toArray → blk < w.heap.size → zs.length < 4611686018427387904 → Calls G.P f #[.slice (some ⟨blk, off, none⟩) zs.length cap] w fun e w' => e = .returned (.tuple #[]) ∧ ∃ n os, w' = grow (putRow (Value.int .i64) (Sort.ahead w n) blk off (zs.mergeSort fun x y => decide (x ≤ y)).toArray) os) :
    Calls G.P f args.toArray w fun e' w' => ∃ (x : Value) (C' : Cx G.tab), e' = .returned x ∧ RepAV C' (tupOf []) x ∧ WR C' (heapN [Ob.own e 1 (zs.map (VV.int .i64)) g false].length [.own e 1 ((sortI zs).map (VV.int .i64)) g false]) w' ∧ Stp C C' w w' ∧ [Ob.own e 1 (zs.map (VV.int .i64)) g false].length ≤ [Ob.own e 1 ((sortI zs).map (VV.int .i64)) g false].length := by
  refine orc_own hargs hw (by simp [sortI]) (fun _ => h0 _ _ _) fun b cap cur hb hnc hcm hcs hrr hln => ?_
  rw [List.length_map] at hnc hrr hln ⊢
  have hxs := rowR_ints hrr (by rw [hln, Nat.mul_one])
  rw [Nat.mul_one] at hxs
  have hlt : b < w.heap.size := (Array.getElem?_eq_some_iff.1 hb).1
  refine (h1 b 0 cap zs w (Go.Proofs.holds_of_block_i hb hxs) hlt hsz).mono ?_
  rintro e' w' ⟨rfl, n, os, rfl⟩
  exact ⟨rfl, _, Go.Proofs.ownsRow_sorted_i (by simp) (Nat.zero_le _) hb hnc hcm hcs, ints_rowR _, Go.Proofs.grownBy_sorted_i _⟩
end Go.Proofs.YtfdpehmefgfjgaaW.AM
