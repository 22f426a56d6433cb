/- The abstract machine: each operation but a call of a function. -/
import Derived.Test.YtccldchklemogaaAm6
set_option linter.unusedSectionVars false
set_option linter.unusedVariables false
set_option linter.unusedSimpArgs false
namespace Go.Proofs.YtccldchklemogaaW.AM
open Go Go.RowKit
variable {TT : Tab}

section
variable {G : Env} {C : Cx TT} {hp : Hp} {w : World} {ρ : Operand → AV} {σ : Operand → Value} {K : KO}

theorem flat_len {s : Nat} : ∀ (vs : List Value), (∀ v ∈ vs, v.cells.size = s) → (vs.flatMap fun v => v.cells.toList).length = vs.length * s
  | [], _ => by simp
  | v :: vs, h => by
    have h1 := h v (by simp)
    have h2 := flat_len vs fun u hu => h u (by simp [hu])
    rw [List.flatMap_cons, List.length_append, h2, List.length_cons, Nat.add_mul]
    simp [h1]; omega
theorem run_getIter {P : Program} {w : World} {r : Nat} {s : ByteArray} {p : Nat} (h : w.heap[r]? = some (.stringIter s p)) : (getObj r).run P w = .ok (.stringIter s p) w := by simp [getObj, Sem.run, h]
theorem run_setIter {P : Program} {w : World} {r : Nat} {s : ByteArray} {p : Nat} {o : Obj} (h : w.heap[r]? = some (.stringIter s p)) : (setObj r o).run P w = .ok () { w with heap := w.heap.setIfInBounds r o } := by simp [setObj, Sem.run, h]
set_option maxHeartbeats 1000000 in
theorem op_good (hG : G.Ok) (hw : WR C hp w) (hρ : ∀ x, RepAV C (ρ x) (σ x)) {cf : CF} {fid rid i : Nat} {o : Oper} (h : opQ G cf fid rid i o ρ hp K) (hnc : ∀ c f, o.op = .call c → c.callee ≠ .value f) : Good G C hp w K ((execOp σ o).run G.P w) := by
  obtain ⟨dst, op, ty, pos, aft, gd⟩ := o
  unfold opQ at h
  unfold execOp
  simp only at h hnc ⊢
  cases op <;> simp only at h ⊢ <;> try exact h.elim
  case move x =>
    obtain ⟨v, C', hp', h1, h2, h3, h4, h5⟩ := move_sound hG hw (hρ x) h
    exact ⟨σ x, v, C', hp', w, .inl rfl, h1, h2, h3, h4, h5⟩
  case assign x =>
    obtain ⟨v, C', hp', h1, h2, h3, h4, h5⟩ := move_sound hG hw (hρ x) h
    exact ⟨σ x, v, C', hp', w, .inl rfl, h1, h2, h3, h4, h5⟩
  case pick c a b =>
    have hc := hρ c
    split at h
    · rename_i t ht
      rw [ht] at hc
      have hc' : RepV C.I (.bool t) (σ c) := hc
      generalize σ c = xc at *
      cases hc'
      rcases h with ⟨rfl, h⟩ | ⟨rfl, h⟩
      · exact Good.pure hw (by simp [asBool]) h (hρ a)
      · exact Good.pure hw (by simp [asBool]) h (hρ b)
    · exact h.elim
  case alloc e =>
    split at h
    · rename_i ti hti
      obtain ⟨ii, d, z, hs⟩ := ti_spec (hG.ti _ _ hti)
      obtain ⟨h1, h2⟩ := h
      have hfa : FA (RepA C) ((ti.zero.map ofC).map (AM.wk (G.hint fid rid i))) z.cells.toList := by
        refine wkL_rep _ ?_
        rw [hs.zeros]
        exact fa_map_l (fa_of rfl fun j a b ha hb => by rw [ha] at hb; cases hb; exact ofC_rep C a)
      obtain ⟨n1, n2, n3⟩ := new_box hw (pid rid i) h1.2 (pid_ge _ _) _ z.cells.toList e hfa (by rw [← hs.zeros]; exact fun u hu => by have := List.all_eq_true.1 h1.1 u hu; exact this)
      refine good_step (w' := w.alloc (.cells z.cells e)) (x := .pointer (some ⟨w.heap.size, 0, none⟩)) ?_ ⟨_, _, _, h2, ⟨_, Cx.set_same _ _ _, rfl⟩, n1, by simpa using n2, by simpa using n3⟩
      simp [Instr.alloc, run_zero hs, newVar, newRow]
    · exact h.elim
  case box e x =>
    have hx := hρ x
    split at h
    · split at h
      · rename_i j hj
        split at h
        · rename_i ds hds
          obtain ⟨k1, k2⟩ := h
          obtain ⟨l, hloc, hob⟩ := hw.ob _ _ hds
          cases l with
          | box _ => exact hob.elim
          | own _ _ _ => exact hob.elim
          | virt vs =>
            obtain ⟨hc, h1⟩ := hob
            rw [hj] at hx
            obtain ⟨vs', hv', hxe⟩ := hx
            rw [hloc] at hv'; cases hv'
            obtain ⟨n1, n2, n3⟩ := new_box hw (pid rid i) k1 (pid_ge _ _) ds vs e hc h1
            refine good_step (w' := w.alloc (.cells (σ x).cells e)) (x := .pointer (some ⟨w.heap.size, 0, none⟩)) ?_ ⟨_, _, _, k2, ⟨_, Cx.set_same _ _ _, rfl⟩, n1, by rw [hxe]; simpa [Value.cells] using n2, by rw [hxe]; simpa [Value.cells] using n3⟩
            simp [Instr.box, newVar, newRow]
        · exact h.elim
      · exact h.elim
    split at h
    · exact h.elim
    · exact h.elim
    · rename_i a hnd hns ha
      rw [ha] at hx
      obtain ⟨hc, h1⟩ := RepA.cells hx (fun e => by subst e; exact hnd rfl) (fun id e => by subst e; exact hns _ rfl)
      obtain ⟨k1, k2⟩ := h
      obtain ⟨n1, n2, n3⟩ := new_box hw (pid rid i) k1 (pid_ge _ _) (a.cells.map (AM.wk (G.hint fid rid i))) (σ x).cells.toList e (wkL_rep _ hc) h1
      refine good_step (w' := w.alloc (.cells (σ x).cells e)) (x := .pointer (some ⟨w.heap.size, 0, none⟩)) ?_ ⟨_, _, _, k2, ⟨_, Cx.set_same _ _ _, rfl⟩, n1, by simpa using n2, by simpa using n3⟩
      simp [Instr.box, newVar, newRow]
    · exact h.elim
  case build t ps =>
    split at h
    · split at h
      · rename_i ti hti
        obtain ⟨ii, d, z, hs⟩ := ti_spec (hG.ti _ _ hti)
        split at h
        · rename_i zl l hz hl
          obtain ⟨hfe, h⟩ := h
          split at h
          · rename_i cs hcs
            obtain ⟨k1, k2⟩ := h
            obtain ⟨hfa, hone⟩ := zeroVV_rep C.I hz
            obtain ⟨us', hf, hfa', hone'⟩ := fillA_sound (partsA_rep hρ hl) (fa_map_l (fa_imp (fun _ _ h => h) hfa)) hone hcs
            rw [hs.zeros] at hf
            simp only [Array.toArray_toList] at hf
            have hb := built_of hs hfe hf
            have hrun := run_build w t (ps.map fun (i, x) => (i, σ x)) us'.toArray (by simpa using hb)
            obtain ⟨n1, n2, n3⟩ := new_virt hw (pid rid i) k1 (pid_ge _ _) cs us' hfa' hone'
            exact good_step hrun ⟨_, _, _, k2, ⟨us', Cx.set_same _ _ _, rfl⟩, n1, n2, n3⟩
          · exact h.elim
        · exact h.elim
      · exact h.elim
    · split at h
      · rename_i ti hti
        obtain ⟨ii, d, z, hs⟩ := ti_spec (hG.ti _ _ hti)
        split at h
        · rename_i zl l hz hl
          obtain ⟨hfe, h⟩ := h
          split at h
          · rename_i cs hcs
            obtain ⟨_, hone⟩ := zeroVV_rep C.I hz
            obtain ⟨us', hf, hfa', hone'⟩ := fillA_sound (partsA_rep hρ hl) (fa_map_l (f := ofC) (fa_of rfl (fun i a b h1 h2 => by rw [h1] at h2; cases h2; exact ofC_rep C _))) hone hcs
            rw [hs.zeros] at hf
            simp only [Array.toArray_toList] at hf
            have hb := built_of hs hfe hf
            have hrun := run_build w t (ps.map fun (i, x) => (i, σ x)) us'.toArray (by simpa using hb)
            exact good_step hrun (homeB_sound hG hw hfa' hone' h)
          · exact h.elim
        · exact h.elim
      · exact h.elim
    split at h
    · rename_i ti hti
      obtain ⟨ii, d, z, hs⟩ := ti_spec (hG.ti _ _ hti)
      split at h
      · rename_i zl l hz hl
        obtain ⟨hfe, h⟩ := h
        split at h
        · rename_i cs hcs
          obtain ⟨hfa, hone⟩ := zeroVV_rep C.I hz
          obtain ⟨us', hf, hfa', hone'⟩ := fill_sound (parts_rep hρ hl) hfa hone hcs
          rw [hs.zeros] at hf
          simp only [Array.toArray_toList] at hf
          have hb := built_of hs hfe hf
          have hrun := run_build w t (ps.map fun (i, x) => (i, σ x)) us'.toArray (by simpa using hb)
          refine good_pure hw hrun h ?_
          exact .agg cs us' (fa_len hfa').symm (fun i u hu => hone' u (List.mem_iff_getElem?.2 ⟨i, hu⟩)) (fun i c u hc hu => by
            obtain ⟨b, h2, h3⟩ := fa_get hfa' hc
            rw [hu] at h2; cases h2; exact h3)
        · exact h.elim
      · exact h.elim
    · exact h.elim
  case buildSlice t len ps =>
    split at h
    · rename_i ti hti
      obtain ⟨ii, d, z, hs⟩ := ti_spec (hG.ti _ _ hti)
      split at h
      · rename_i e he
        split at h
        · rename_i te hte
          obtain ⟨ie, de, ze, hse⟩ := ti_spec (hG.ti _ _ hte)
          split at h
          · rename_i zl l hz hl
            obtain ⟨⟨h0, h24, hzl⟩, h⟩ := h
            split at h
            · rename_i hr hall
              rw [named_eq] at h
              obtain ⟨k1, k2⟩ := h
              have hps := parts_rep hρ hl
              have hvs : FA (RepV C.I) (l.map (·.2)) (ps.toList.map fun p => σ p.2) := by
                refine fa_of (by have := fa_len hps; simpa using this) fun j a b ha hb => ?_
                rw [List.getElem?_map] at ha hb
                obtain ⟨a', ha', rfl⟩ := Option.map_eq_some_iff.1 ha
                obtain ⟨b', hb', rfl⟩ := Option.map_eq_some_iff.1 hb
                obtain ⟨c, hc, hh⟩ := fa_get hps ha'
                rw [List.getElem?_map, hb'] at hc
                cases hc
                exact hh.2
              have hidx : l.map (·.1) = List.range len := by simpa using hr
              have hlen : l.length = len := by have := congrArg List.length hidx; simpa using this
              have hpl : ps.toList.length = len := by have := fa_len hps; rw [hlen] at this; simpa using this.symm
              have hcs : ∀ e ∈ l.map (·.2), e.cells.length = te.size := fun e he => by
                obtain ⟨p, hp, rfl⟩ := List.mem_map.1 he
                have := List.all_eq_true.1 hall p hp
                simpa using this
              have hvc : ∀ v ∈ ps.toList.map (fun p => σ p.2), v.cells.size = te.size := fun v hv => by
                obtain ⟨j, hj⟩ := List.mem_iff_getElem?.1 hv
                obtain ⟨e, he, hr⟩ := fa_get' hvs hj
                have := fa_len hr.cells.1
                rw [← hcs e (List.mem_iff_getElem?.2 ⟨j, he⟩), this]; simp
              have hparts : (ps.map fun (i, x) => (i, σ x)).toList = (((ps.toList.map fun p => σ p.2).zipIdx 0).map fun x => (x.2, x.1)) := by
                apply List.ext_getElem?
                intro j
                simp only [Array.toList_map, List.getElem?_map, List.getElem?_zipIdx, Nat.zero_add]
                cases hj : ps.toList[j]? with
                | none => simp
                | some p =>
                  simp only [Option.map_some, Option.some.injEq, Prod.mk.injEq, and_true]
                  obtain ⟨a, ha, hh⟩ := fa_get' (i := j) hps (by rw [List.getElem?_map, hj]; rfl)
                  have h7 : (l.map (·.1))[j]? = some a.1 := by rw [List.getElem?_map, ha]; rfl
                  have hjl : j < len := by rw [← hpl]; exact (List.getElem?_eq_some_iff.1 hj).1
                  rw [hidx, List.getElem?_range hjl] at h7
                  have h8 := hh.1
                  simp at h7 h8
                  omega
              by_cases hl0 : len = 0
              · subst hl0
                have hpe : ps.toList = [] := List.eq_nil_of_length_eq_zero hpl
                have hle : l = [] := List.eq_nil_of_length_eq_zero hlen
                have hpe' : ps = #[] := by apply Array.ext'; simpa using hpe
                subst hpe' hle
                have hown := World.ownsRow_lit (base := 0) (e := e) (size := te.size) w #[] 0 (Nat.zero_le _) (by simp [maxLen]) (by simp)
                obtain ⟨n1, n2, n3⟩ := new_own hw (pid rid i) k1 (pid_ge _ _) e te.size 0 [] false _ [] h0 (by simpa using hown) ⟨by simp, by simp⟩ (World.grownBy_alloc w _ none) (fun b hb => by simp [Value.ownBlock] at hb; omega)
                have hue : G.P.underlying t = some (.slice e) := by
                  obtain ⟨e', he', hh⟩ := sl_und hs (by rw [he]; rfl)
                  rw [he] at he'; cases he'; exact hh
                refine good_step (x := .slice (some ⟨w.heap.size, 0, none⟩) 0 0) (w' := w.alloc (.cells #[] e)) ?_ ⟨_, _, _, k2, ⟨rfl, 0, te.size, _, Cx.set_same _ _ _, Nat.le_refl _, fun _ => rfl⟩, n1, n2, n3⟩
                simp [Instr.buildSlice, run_underlying hue, run_sizeOf hse, Instr.fill, newRow]
                congr 2
                exact Array.eq_empty_of_size_eq_zero (by simp)
              · have hz' : ze.cells.size = te.size := by
                  have h9 := hse.zeros
                  have h10 := fa_len (mapO_fa hz)
                  rw [h9] at h10; rw [← hzl, ← h10]; simp
                have hpos : ¬ len * ie.size = 0 := by
                  rw [← hse.size]; exact Nat.mul_ne_zero hl0 (by omega)
                have hfw := Go.Great.fill_whole h0 (ps.toList.map fun p => σ p.2) ((Array.range (len * ie.size)).map (ze.cells[· % ze.cells.size]!)) hvc (by simp [hpl, hse.size])
                rw [← hparts, hse.size] at hfw
                have hue : G.P.underlying t = some (.slice e) := by
                  obtain ⟨e', he', hh⟩ := sl_und hs (by rw [he]; rfl)
                  rw [he] at he'; cases he'; exact hh
                have hrun := Go.run_buildSlice w t e len (ps.map fun (i, x) => (i, σ x)) _ ie ze hue hse.info hse.zero (by rw [← hse.size]; omega) hpos hfw
                have hrows := lit_rows h0 hvs hcs
                have hown := World.ownsRow_lit (base := 0) (e := e) (size := te.size) w ((ps.toList.map fun p => σ p.2).flatMap fun v => v.cells.toList).toArray len (Nat.zero_le _) (by have : len ≤ len * te.size := Nat.le_mul_of_pos_right _ h0; simp [maxLen]; omega) (by
                  have := flat_len _ hvc
                  rw [List.length_map, hpl] at this
                  rw [List.size_toArray]; exact this)
                obtain ⟨n1, n2, n3⟩ := new_own hw (pid rid i) k1 (pid_ge _ _) e te.size 0 (l.map (·.2)) false _ _ h0 (by simpa [hlen] using hown) hrows (World.grownBy_alloc w _ none) (fun b hb => by simp [Value.ownBlock] at hb; omega)
                exact good_step hrun ⟨_, _, _, k2, ⟨rfl, 0, te.size, _, Cx.set_same _ _ _, Nat.le_refl _, fun _ => rfl⟩, n1, n2, n3⟩
            · exact h.elim
          · exact h.elim
        · exact h.elim
      · exact h.elim
    · exact h.elim
  case load t a =>
    split at h
    · unfold loadS at h
      split at h
      · exact h.elim
      · rename_i ti hti
        obtain ⟨ii, d, z, hs⟩ := ti_spec (hG.ti _ _ hti)
        split at h
        · rename_i id off ha
          have hx := hρ a
          rw [ha] at hx
          split at h
          · rename_i cs hcs
            obtain ⟨⟨hagg, hle⟩, k1, k2⟩ := h
            obtain ⟨l, hloc, hob⟩ := hw.ob _ _ hcs
            cases l with
            | virt _ => exact hob.elim
            | own _ _ _ => exact hob.elim
            | box b =>
              obtain ⟨T, vs, hb, hr, h1, _⟩ := hob
              obtain ⟨b', hb', hxe⟩ := hx
              rw [hloc] at hb'; cases hb'
              have hl := fa_len hr
              obtain ⟨u, hu1, hu2⟩ := run_part (w := w) hs b 0 off vs (fun j u hu => by simp [World.cell?, hb, hu]) (R := fun u => u = .agg ((vs.drop off).take ti.size).toArray) (by rw [if_pos hagg]; exact ⟨by omega, rfl⟩)
              rw [Nat.zero_add] at hu1
              obtain ⟨n1, n2, n3⟩ := new_virt hw (pid rid i) k1 (pid_ge _ _) ((cs.drop off).take ti.size) ((vs.drop off).take ti.size) (fa_take (fa_drop hr off) _) (fun u hu => h1 u (List.drop_subset _ _ (List.take_subset _ _ hu)))
              refine good_step (x := u) ?_ ⟨_, _, _, k2, ⟨_, Cx.set_same _ _ _, hu2⟩, n1, n2, n3⟩
              rw [hxe]
              simpa [Instr.loadAt, Instr.sureAddr] using hu1
          · exact h.elim
        · exact h.elim
    · unfold loadF at h
      split at h
      · exact h.elim
      · rename_i ti hti
        obtain ⟨ii, d, z, hs⟩ := ti_spec (hG.ti _ _ hti)
        split at h
        · rename_i id off ha
          have hx := hρ a
          rw [ha] at hx
          split at h
          · rename_i cs hcs
            obtain ⟨⟨hagg, hle⟩, h⟩ := h
            obtain ⟨l, hloc, hob⟩ := hw.ob _ _ hcs
            cases l with
            | virt _ => exact hob.elim
            | own _ _ _ => exact hob.elim
            | box b =>
              obtain ⟨T, vs, hb, hr, h1, _⟩ := hob
              obtain ⟨b', hb', hxe⟩ := hx
              rw [hloc] at hb'; cases hb'
              have hl := fa_len hr
              obtain ⟨u, hu1, hu2⟩ := run_part (w := w) hs b 0 off vs (fun j u hu => by simp [World.cell?, hb, hu]) (R := fun u => u = .agg ((vs.drop off).take ti.size).toArray) (by rw [if_pos hagg]; exact ⟨by omega, rfl⟩)
              rw [Nat.zero_add] at hu1
              obtain ⟨C', hp', us, q1, q2, q3, q4, q5⟩ := frzL_sound _ hw (fa_take (fa_drop hr off) ti.size) h
              refine good_step (x := u) ?_ ⟨_, C', hp', q1, ?_, q3, q4, q5⟩
              · rw [hxe]
                simpa [Instr.loadAt, Instr.sureAddr] using hu1
              · rw [hu2]
                exact .agg _ _ (fa_len q2).symm (fun j u hu => h1 u (List.drop_subset _ _ (List.take_subset _ _ (List.mem_iff_getElem?.2 ⟨j, hu⟩)))) (fun j c u hc hu => by
                  obtain ⟨b, h2, h3⟩ := fa_get q2 hc
                  rw [hu] at h2; cases h2; exact h3)
          · exact h.elim
        · exact h.elim
    obtain ⟨u, v, h1, h2, h3⟩ := load_sound hw t (ρ a) (σ a) (hρ a) h hG
    exact good_pure hw h1 h2 h3
  case store t a x =>
    obtain ⟨w', h1, v, C', hp', k1, k2, k3, k4, k5⟩ := store_sound hG hw (G.hint fid rid i) t (hρ a) (hρ x) h
    exact ⟨undef, v, C', hp', w', .inr ⟨by simp [h1], rfl⟩, k1, k2, k3, k4, k5⟩
  case nilCheck x =>
    have hx := hρ x
    split at h <;> try exact h.elim
    · rename_i id off hq
      rw [hq] at hx
      obtain ⟨b, hb, he⟩ := hx
      exact Good.pure hw (by simp [he]) h ⟨b, hb, rfl⟩
    · rename_i e off hq
      rw [hq] at hx
      obtain ⟨b, o, he, hh⟩ := hx
      exact Good.pure hw (by simp [he]) h ⟨b, o, rfl, hh⟩
    · rename_i id g j off hq
      rw [hq] at hx
      obtain ⟨⟨ad, he⟩, hh⟩ := hx
      rw [he] at hh
      exact Good.pure hw (by simp [he]) h ⟨⟨ad, rfl⟩, hh⟩
    · rename_i f l hq
      rw [hq] at hx
      obtain ⟨vs, he, hh⟩ := hx
      exact Good.pure hw (by simp [he]) h ⟨vs, rfl, hh⟩
  case binOp op t x y t2 =>
    have hx := hρ x
    have hy := hρ y
    split at h
    · rename_i ti u v hti hu hv
      rw [hu] at hx
      rw [hv] at hy
      obtain ⟨r, a, h1, h2, h3⟩ := bin_sound (G := G) (X := x) (Y := y) (w := w) (hG.ti _ _ hti) hx hy h
      exact good_pure hw h1 h2 h3
    · exact h.elim
  case unOp op t x =>
    have hx := hρ x
    split at h
    · rename_i b hb
      rw [hb] at hx
      have hx' : RepV C.I (.bool b) (σ x) := hx
      generalize σ x = xv at *
      cases hx'
      exact good_pure hw (by simp [Op.unary]) h (RepV.bool _)
    · rename_i k n hb
      rw [hb] at hx
      have hx' : RepV C.I (.int k n) (σ x) := hx
      generalize σ x = xv at *
      cases hx'
      obtain ⟨z, hz, hk⟩ := h
      exact good_pure hw (by simp only [Op.unary, Op.intArith, hz, Sem.run_pure]) hk (RepV.int _ _)
    · exact h.elim
  case convert s d x =>
    have hx := hρ x
    split at h
    · rename_i ti hti
      obtain ⟨ii, dd, z, hs⟩ := ti_spec (hG.ti _ _ hti)
      split at h
      · rename_i hstr
        have hd := str_und hs hstr
        unfold bytesP at h
        split at h
        · exact h.elim
        rename_i si hsi
        split at h
        · exact h.elim
        rename_i e he
        split at h
        · exact h.elim
        rename_i te hte
        obtain ⟨hk, h⟩ := h
        obtain ⟨i1, d1, z1, hs1⟩ := ti_spec (hG.ti _ _ hsi)
        obtain ⟨i2, d2, z2, hs2⟩ := ti_spec (hG.ti _ _ hte)
        obtain ⟨e', he', hu1⟩ := sl_und hs1 (by rw [he]; rfl)
        rw [he] at he'; cases he'
        have hd2 : d2 = .int .u8 := by have := hs2.knd; rw [hk] at this; cases d2 <;> simp [dKnd] at this; rw [this]
        have hu2 := hs2.und
        rw [hd2] at hu2
        obtain ⟨es, ⟨xs, rfl, hK⟩, hsrc⟩ := src_rep hw hx h
        exact good_pure hw (bytes_run hu1 hu2 hd hsrc) hK (RepV.str _)
      · split at h
        · rename_i k n hq
          rw [hq] at hx
          have hx' : RepV C.I (.int k n) (σ x) := hx
          generalize σ x = xv at *
          cases hx'
          split at h
          · rename_i k2 hk2
            obtain ⟨z, hz, h⟩ := h
            have hd : dd = .int k2 := by have := hs.knd; rw [hk2] at this; cases dd <;> simp [dKnd] at this; rw [this]
            have hu := hs.und
            rw [hd] at hu
            cases hsu : G.P.underlying s with
            | none => exact absurd h.1 (by simp [hsu])
            | some ds =>
              refine good_pure hw (x := .int k2 z) ?_ h.2 (RepV.int _ _)
              simp only [convert, Sem.run_bind, run_underlying hsu, run_underlying hu, Result.andThen_ok, Conv.intToInt, hz, Sem.run_pure]
          · exact h.elim
        · exact h.elim
    · exact h.elim
  case makeFunc fn first caps =>
    cases fn <;> simp only at h <;> try exact h.elim
    rename_i f
    obtain ⟨h0, h⟩ := h
    split at h
    · rename_i l hl
      have hm := mapO_ops hρ hl
      have hf : first = #[] := Array.eq_empty_of_size_eq_zero h0
      subst hf
      refine good_pure hw (x := .func (.func f) #[] (caps.map σ)) (by simp [Instr.makeFunc]) h ?_
      exact ⟨caps.toList.map σ, by simp [← Array.toList_map], hm⟩
    · exact h.elim
  case makeSlice t l c =>
    have hl := hρ l
    have hc := hρ c
    split at h
    · rename_i ti k n k' m hti hl' hc'
      rw [hl'] at hl
      rw [hc'] at hc
      have hx1 : RepV C.I (.int k n) (σ l) := hl
      have hx2 : RepV C.I (.int k' m) (σ c) := hc
      generalize σ l = xl at *
      generalize σ c = xc at *
      cases hx1
      cases hx2
      obtain ⟨ii, d, z, hs⟩ := ti_spec (hG.ti _ _ hti)
      split at h
      · rename_i e he
        split at h
        · rename_i te hte
          obtain ⟨ie, de, ze, hse⟩ := ti_spec (hG.ti _ _ hte)
          split at h
          · rename_i zl hz
            simp only [named_eq] at h
            obtain ⟨rfl, ⟨h1, h2, h3, h4, h5, h6⟩, k1, k2⟩ := h
            obtain ⟨_, _, hu⟩ := sl_und hs (by rw [he]; rfl)
            have heq := he
            obtain ⟨N, rfl⟩ := Int.eq_ofNat_of_zero_le h1
            have hbn : ie.bytes * N ≤ 281474976710656 := by
              rw [hse.bytes] at h3
              have : ((ie.bytes * N : Nat) : Int) ≤ 281474976710656 := by push_cast; exact h3
              omega
            have hue : G.P.underlying t = some (.slice e) := by
              obtain ⟨e', he', hh⟩ := sl_und hs (by rw [he]; rfl)
              rw [he] at he'; cases he'; exact hh
            obtain ⟨w', hrun, hown, hgr⟩ := run_make_full (P := G.P) w 0 t e ie ze te.size hue hse.info hse.zero hse.size.symm k k' N hbn (by simp [maxLen]; omega) (Nat.zero_le _)
            simp only [Int.toNat_natCast] at k2
            have hrows := make_rows (I := C.I) hse.zeros hz h4 h5 h6 N
            obtain ⟨n1, n2, n3⟩ := new_own hw (pid rid i) k1 (pid_ge _ _) e te.size 0 (List.replicate N (elemOf te.agg zl)) false _ _ h4 (by simpa using hown) hrows hgr (fun b hb => by simp [Value.ownBlock] at hb; omega)
            refine good_step (by simpa using hrun) ⟨_, _, _, k2, ⟨rfl, 0, te.size, _, Cx.set_same _ _ _, Nat.le_refl _, fun _ => rfl⟩, n1, n2, n3⟩
          · exact h.elim
        · exact h.elim
      · exact h.elim
    · exact h.elim
  case slice t x lo hi mx =>
    cases mx <;> simp only at h <;> try exact h.elim
    have hx := hρ x
    split at h
    · rename_i ti s lo' hi' hti hx' hlo hhi
      rw [hx'] at hx
      have hxx : RepV C.I (.str s) (σ x) := hx
      generalize σ x = xv at *
      cases hxx
      obtain ⟨ii, d, z, hs⟩ := ti_spec (hG.ti _ _ hti)
      obtain ⟨hstr, h⟩ := h
      obtain ⟨l, hh, h1, h2, h3, h4⟩ := cut_sound (G := G) (w := w) (isS := false) (Nat.le_refl _) (opt_rep hρ hlo) (opt_rep hρ hhi) h
      refine good_pure hw (x := .string (s.extract l hh)) ?_ h2 (RepV.str _)
      simp [Instr.sliceAt, Instr.slice, run_underlying (str_und hs hstr), h1]
    · rename_i ti es lo' hi' hti hx' hlo hhi
      rw [hx'] at hx
      obtain ⟨ii, d, z, hs⟩ := ti_spec (hG.ti _ _ hti)
      split at h
      · rename_i e he
        split at h
        · rename_i te hte
          obtain ⟨ie, de, ze, hse⟩ := ti_spec (hG.ti _ _ hte)
          obtain ⟨hsz, h⟩ := h
          simp only [named_eq] at h
          obtain ⟨v, u, h1, h2, h3⟩ := slice_sound (w := w) (K := fun v => K (.one (.val v)) hp) hs hx he hse (opt_rep hρ hlo) (opt_rep hρ hhi) hsz h
          refine good_pure hw (x := u) ?_ h2 h3
          have hue : G.P.underlying t = some (.slice e) := by
            obtain ⟨e', he', hh⟩ := sl_und hs (by rw [he]; rfl)
            rw [he] at he'; cases he'; exact hh
          simp only [Instr.sliceAt, Sem.run_bind, run_underlying hue, Result.andThen_ok, Option.map_none]
          exact h1
        · exact h.elim
      · exact h.elim
    · exact h.elim
  case fieldAddr t x f =>
    have hx := hρ x
    split at h
    · rename_i ti hti
      obtain ⟨ii, d, z, hs⟩ := ti_spec (hG.ti _ _ hti)
      split at h
      · rename_i off ft sz hf
        obtain ⟨h0, h⟩ := h
        split at h
        · rename_i id o hq
          rw [hq] at hx
          obtain ⟨b, hb, he⟩ := hx
          rw [he]
          refine good_pure hw (fieldPlace_run hs hf h0 _) h ⟨b, hb, by rw [Addr.add_lit]⟩
        · rename_i e o hq
          rw [hq] at hx
          obtain ⟨b, o', he, hh⟩ := hx
          rw [he]
          exact good_pure hw (fieldPlace_run hs hf h0 _) h ⟨b, o', by rw [Addr.add_lit, Nat.add_assoc], hh⟩
        · rename_i id g j o hq
          rw [hq] at hx
          obtain ⟨⟨ad, he⟩, g', sz', v, k1, k2, k3⟩ := hx
          rw [he] at k3 ⊢
          refine good_pure hw (fieldPlace_run hs hf h0 _) h ⟨⟨_, rfl⟩, g', sz', v, k1, k2, fun e => ?_⟩
          obtain ⟨b, n, cap, e1, e2⟩ := k3 e
          simp only [Value.pointer.injEq, Option.some.injEq] at e2
          exact ⟨b, n, cap, e1, by rw [e2, Addr.add_lit, Nat.add_assoc]⟩
        · exact h.elim
      · exact h.elim
    · exact h.elim
  case field t x f =>
    have hx := hρ x
    split at h
    · split at h
      · rename_i ti id hti hq
        rw [hq] at hx
        split at h
        · rename_i cs off ft sz hcs hf
          split at h
          · rename_i tf htf
            split at h
            · rename_i v hv
              obtain ⟨ii, d, z, hs⟩ := ti_spec (hG.ti _ _ hti)
              obtain ⟨fi, fd, fz, hsf⟩ := ti_spec (hG.ti _ _ htf)
              obtain ⟨l, hloc, hob⟩ := hw.ob _ _ hcs
              cases l with
              | box _ => exact hob.elim
              | own _ _ _ => exact hob.elim
              | virt vs =>
                obtain ⟨hr, h1⟩ := hob
                obtain ⟨vs', hv', hxe⟩ := hx
                rw [hloc] at hv'; cases hv'
                rw [hxe]
                have hp1 := partA_rep hv hr h1
                obtain ⟨u, hu1, hu2⟩ := part_run (w := w) hsf off vs hp1
                refine good_pure hw (x := u) ?_ h hu2
                have hfl := hs.flds
                have hst : ∃ fs, d = .struct fs := by
                  cases d <;> simp [dFl] at hfl <;> first | exact ⟨_, rfl⟩ | (simp [hfl] at hf; done)
                obtain ⟨fs, rfl⟩ := hst
                have hfl' : fldsOf G.P fs.toList = some ti.flds := hs.flds
                obtain ⟨fl, k1, k2⟩ := fa_get' (mapO_fa hfl') hf
                obtain ⟨fi2, hi, he⟩ := Option.map_eq_some_iff.1 k2
                simp only [Prod.mk.injEq] at he
                have k1' : fs[f]? = some fl := by simpa using k1
                simp only [Instr.field, Sem.run_bind, run_underlying hs.und, Result.andThen_ok, k1', asAgg, Sem.run_pure, he.1, he.2.1]
                exact hu1
            · exact h.elim
          · exact h.elim
        · exact h.elim
      · exact h.elim
    split at h
    · rename_i ti cs hti hq
      rw [hq] at hx
      have hx' : RepV C.I (.agg cs) (σ x) := hx
      generalize σ x = xv at *
      cases hx' with
      | agg cs vs hl h1 hh =>
        obtain ⟨ii, d, z, hs⟩ := ti_spec (hG.ti _ _ hti)
        split at h
        · rename_i off ft sz hf
          split at h
          · rename_i tf htf
            obtain ⟨fi, fd, fz, hsf⟩ := ti_spec (hG.ti _ _ htf)
            split at h
            · rename_i v hv
              have hfa : FA (RepV C.I) cs vs := fa_of hl.symm fun i a b ha hb => hh i a b ha hb
              have hp1 := partV_rep hv hfa (fun u hu => by obtain ⟨j, hj⟩ := List.mem_iff_getElem?.1 hu; exact h1 j u hj)
              obtain ⟨u, hu1, hu2⟩ := part_run (w := w) hsf off vs hp1
              refine good_pure hw (x := u) ?_ h hu2
              have hfl := hs.flds
              have hst : ∃ fs, d = .struct fs := by
                cases d <;> simp [dFl] at hfl <;> first | exact ⟨_, rfl⟩ | (simp [hfl] at hf; done)
              obtain ⟨fs, rfl⟩ := hst
              have hfl' : fldsOf G.P fs.toList = some ti.flds := hs.flds
              obtain ⟨fl, k1, k2⟩ := fa_get' (mapO_fa hfl') hf
              obtain ⟨fi2, hi, he⟩ := Option.map_eq_some_iff.1 k2
              simp only [Prod.mk.injEq] at he
              have k1' : fs[f]? = some fl := by simpa using k1
              simp only [Instr.field, Sem.run_bind, run_underlying hs.und, Result.andThen_ok, k1', asAgg, Sem.run_pure, he.1, he.2.1]
              exact hu1
            · exact h.elim
          · exact h.elim
        · exact h.elim
    · exact h.elim
  case indexAddr t x ix =>
    have hx := hρ x
    have hix := hρ ix
    split at h
    · rename_i ti es k n hti hq hqi
      rw [hq] at hx
      rw [hqi] at hix
      have hi' : RepV C.I (.int k n) (σ ix) := hix
      have hx' : RepV C.I (.row es) (σ x) := hx
      generalize σ ix = iv at *
      generalize σ x = xv at *
      cases hi'
      obtain ⟨ii, d, z, hs⟩ := ti_spec (hG.ti _ _ hti)
      split at h
      · rename_i e he
        have hue : G.P.underlying t = some (.slice e) := by
          obtain ⟨e', he', hh⟩ := sl_und hs (by rw [he]; rfl)
          rw [he] at he'; cases he'; exact hh
        split at h
        · rename_i te hte
          obtain ⟨ie, de, ze, hse⟩ := ti_spec (hG.ti _ _ hte)
          obtain ⟨h0, u, hu, husz, hte0, h⟩ := h
          obtain ⟨N, rfl⟩ := Int.eq_ofNat_of_zero_le h0
          simp only [Int.toNat_natCast] at hu
          have hN : N < es.length := (List.getElem?_eq_some_iff.1 hu).1
          cases hx' with
          | row0 => simp at hu
          | row es b off cap sz uu hsz hc hI h1 hs' hh =>
            have hszz : te.size = sz := by rw [← husz, hs' N u hu]
            subst hszz
            refine good_pure hw (x := .pointer (some ⟨b, off + N * te.size, none⟩)) ?_ h ⟨b, off + N * te.size, by simp, fun j c hc' => ⟨uu (N * te.size + j), ?_, ?_, hh N u j c hu hc'⟩⟩
            · have h0' : (0 : Int) ≤ (N : Int) := by omega
              have h1' : (N : Int) < (es.length : Int) := by omega
              simp only [Instr.indexAt, Sem.run_bind, asIntOf, Sem.run_pure, Result.andThen_ok, run_underlying hue, h0', h1', and_self, if_true, run_sizeOf hse, Int.toNat_natCast, Addr.add_lit]
            · have hj : j < te.size := by rw [← husz]; exact (List.getElem?_eq_some_iff.1 hc').1
              have : N * te.size + te.size ≤ es.length * te.size := by have := Nat.mul_le_mul_right te.size (show N + 1 ≤ es.length from hN); rwa [Nat.add_mul, Nat.one_mul] at this
              rw [Nat.add_assoc]; exact hI _ (by omega)
            · have hj : j < te.size := by rw [← husz]; exact (List.getElem?_eq_some_iff.1 hc').1
              have : N * te.size + te.size ≤ es.length * te.size := by have := Nat.mul_le_mul_right te.size (show N + 1 ≤ es.length from hN); rwa [Nat.add_mul, Nat.one_mul] at this
              exact h1 _ (by omega)
        · exact h.elim
      · exact h.elim
    · rename_i ti id g k n hti hq hqi
      rw [hq] at hx
      rw [hqi] at hix
      have hi' : RepV C.I (.int k n) (σ ix) := hix
      generalize σ ix = iv at *
      cases hi'
      obtain ⟨ii, d, z, hs⟩ := ti_spec (hG.ti _ _ hti)
      split at h
      · rename_i e he
        have hue : G.P.underlying t = some (.slice e) := by
          obtain ⟨e', he', hh⟩ := sl_und hs (by rw [he]; rfl)
          rw [he] at he'; cases he'; exact hh
        split at h
        · rename_i te e' sz es g' pin hte hcs
          obtain ⟨ie, de, ze, hse⟩ := ti_spec (hG.ti _ _ hte)
          obtain ⟨rfl, rfl, h0, hlt, h⟩ := h
          obtain ⟨N, rfl⟩ := Int.eq_ofNat_of_zero_le h0
          obtain ⟨l, hloc, hob⟩ := hw.ob _ _ hcs
          cases l with
          | virt _ => exact hob.elim
          | box b => exact hob.elim
          | own g2 sz2 v =>
            obtain ⟨rfl, rfl, hsz, xs, hrow, hrr, _⟩ := hob
            obtain ⟨_, g3, sz3, v3, k1, k2, k3⟩ := hx
            rw [hloc] at k1; cases k1
            rw [k3 rfl]
            rcases hrow.2 with ⟨rfl, hn⟩ | ⟨b, cap, cur, rfl, _⟩
            · omega
            · refine good_pure hw (x := .pointer (some ⟨b, 0 + N * te.size, none⟩)) ?_ h ⟨⟨_, rfl⟩, g, te.size, _, hloc, Nat.le_refl _, fun _ => ⟨b, _, _, rfl, by simp⟩⟩
              simp only [Instr.indexAt, Sem.run_bind, asIntOf, Sem.run_pure, Result.andThen_ok, run_underlying hue, h0, hlt, and_self, if_true, run_sizeOf hse, Int.toNat_natCast, Addr.add_lit]
        · exact h.elim
      · exact h.elim
    · exact h.elim
  case index t x ix =>
    have hx := hρ x
    have hix := hρ ix
    split at h
    · rename_i ti s k n hti hq hqi
      rw [hq] at hx
      rw [hqi] at hix
      have hi' : RepV C.I (.int k n) (σ ix) := hix
      have hx' : RepV C.I (.str s) (σ x) := hx
      generalize σ ix = iv at *
      generalize σ x = xv at *
      cases hi'
      cases hx'
      obtain ⟨ii, d, z, hs⟩ := ti_spec (hG.ti _ _ hti)
      obtain ⟨hstr, h0, b, hb, h⟩ := h
      refine good_pure hw (x := .int .u8 b.toNat) ?_ h (RepV.int _ _)
      simp only [Instr.index, Sem.run_bind, asIntOf, Sem.run_pure, Result.andThen_ok, run_underlying (str_und hs hstr), h0, if_true, hb]
    · exact h.elim
  case range t x =>
    have hx := hρ x
    split at h
    · rename_i ti s hti hs
      obtain ⟨hstr, h1, h2⟩ := h
      obtain ⟨ii, d, z, hss⟩ := ti_spec (hG.ti _ _ hti)
      rw [hs] at hx
      have hx' : RepV C.I (.str s) (σ x) := hx
      generalize σ x = xv at hx'
      cases hx'
      obtain ⟨n1, n2, n3⟩ := new_iter hw (pid rid i) h1 (pid_ge _ _) s 0
      refine good_step (w' := w.alloc (.stringIter s 0)) (x := .pointer (some ⟨w.heap.size, 0, none⟩)) ?_ ⟨_, _, _, h2, ⟨_, Cx.set_same _ _ _, rfl⟩, n1, n2, n3⟩
      simp [Instr.range, run_underlying (str_und hss hstr)]
    · exact h.elim
  case next x isS =>
    cases isS with
    | false => exact h.elim
    | true =>
      have hx := hρ x
      simp only at h
      split at h
      · rename_i id hxe
        split at h
        · rename_i s p hcs
          obtain ⟨l, hloc, hob⟩ := hw.ob _ _ hcs
          cases l with
          | virt _ => exact hob.elim
          | own g2 sz2 v => exact hob.elim
          | box b =>
            obtain ⟨hb, hI⟩ := hob
            rw [hxe] at hx
            obtain ⟨b', hl', hxv⟩ := hx
            rw [hloc] at hl'; cases hl'
            have hblt := hw.lt id b (by rw [blk_of_box hloc (hw.no_ft id (by simp [hcs, treeish]))])
            rcases h with ⟨hp, hk⟩ | ⟨hp, hk⟩
            · have hps : p < s.size := of_decide_eq_true hp
              have hg : w.grownBy { w with heap := w.heap.setIfInBounds b (.stringIter s (p + (Utf8.decode s p).2)) } (some b) := ⟨rfl, rfl, rfl, by simp, fun k hk hn => by
                have : ¬ b = k := fun e => hn (by rw [e])
                simp [Array.getElem?_setIfInBounds, this]⟩
              obtain ⟨n2, n3⟩ := set_iter hw id s p (p + (Utf8.decode s p).2) b hcs hloc (w' := { w with heap := w.heap.setIfInBounds b (.stringIter s (p + (Utf8.decode s p).2)) }) (by simp [hblt]) hg hI
              refine good_step (w' := { w with heap := w.heap.setIfInBounds b (.stringIter s (p + (Utf8.decode s p).2)) }) (x := .tuple #[.bool true, .int .i64 p, .int .i32 ((Utf8.decode s p).1 : Nat)]) ?_ ⟨_, _, _, hk, ⟨[.bool true, .int .i64 p, .int .i32 ((Utf8.decode s p).1 : Nat)], rfl, .cons (.bool _) (.cons (.int _ _) (.cons (.int _ _) .nil))⟩, Le.refl _, n2, n3⟩
              rw [hxv]
              unfold Instr.next
              simp only [Sem.run_bind, run_getIter hb, Result.andThen_ok, hps, if_true, run_setIter hb, Sem.run_pure]
              rfl
            · have hps : ¬ p < s.size := of_decide_eq_false hp
              refine good_pure hw (x := .tuple #[.bool false]) ?_ hk ⟨[.bool false], rfl, .cons (.bool _) .nil⟩
              rw [hxv]
              unfold Instr.next
              simp only [Sem.run_bind, run_getIter hb, Result.andThen_ok, hps, if_false, Sem.run_pure]
        · exact h.elim
      · exact h.elim
  case extract x j =>
    have hx := hρ x
    split at h
    · rename_i as has
      rw [has] at hx
      split at h
      · rename_i a ha
        obtain ⟨vs, he, hfa⟩ := hx
        obtain ⟨u, hu, hr⟩ := fa_get hfa ha
        refine good_pure hw (x := u) (by simp [Instr.extract, he, hu]) h hr
      · exact h.elim
    · exact h.elim
  case call c =>
    obtain ⟨cal, args, ats⟩ := c
    cases cal <;> simp only at h <;> try exact h.elim
    case value f => exact absurd rfl (hnc _ f rfl)
    case builtin b =>
      split at h
      · rename_i x t hargs hats
        have ha : args = #[x] := by apply Array.ext'; simpa using hargs
        have ht : ats = #[t] := by apply Array.ext'; simpa using hats
        subst ha ht
        split at h
        · rename_i ti hti
          obtain ⟨ii, d, z, hs⟩ := ti_spec (hG.ti _ _ hti)
          obtain ⟨u, a, h1, h2, h3⟩ := len_sound (ty := ty) hw hs (hρ x) h
          refine Good.pure (x := a) hw ?_ h2 h3
          simp [resolve, invoke, builtin, h1]
        · exact h.elim
      · rename_i s x t t' hargs hats
        have ha : args = #[s, x] := by apply Array.ext'; simpa using hargs
        have ht : ats = #[t, t'] := by apply Array.ext'; simpa using hats
        subst ha ht
        obtain ⟨rfl, h⟩ := h
        obtain ⟨u, w', h1, v, C', hp', k1, k2, k3, k4, k5⟩ := append_sound (ty := ty) hG hw rid i t (hρ s) (hρ x) h
        refine ⟨u, v, C', hp', w', .inl ?_, k1, k2, k3, k4, k5⟩
        simp [resolve, invoke, builtin, h1]
      · rename_i x y hargs
        have ha : args = #[x, y] := by apply Array.ext'; simpa using hargs
        subst ha
        have hx := hρ x
        have hy := hρ y
        split at h
        · rename_i k a k' b hqx hqy
          rw [hqx] at hx
          rw [hqy] at hy
          have hx' : RepV C.I (.int k a) (σ x) := hx
          have hy' : RepV C.I (.int k' b) (σ y) := hy
          generalize hsx : σ x = xv at *
          generalize hsy : σ y = yv at *
          cases hx'
          cases hy'
          obtain ⟨z, hz, h⟩ := h
          refine Good.pure (x := .int k z) hw ?_ h (RepV.int _ _)
          simp [resolve, invoke, builtin, Builtin.max_, Builtin.max2, hsx, hsy, ← hz, mx2]
        · exact h.elim
      · rename_i x y hargs
        have ha : args = #[x, y] := by apply Array.ext'; simpa using hargs
        subst ha
        have hx := hρ x
        have hy := hρ y
        split at h
        · rename_i k a k' b hqx hqy
          rw [hqx] at hx
          rw [hqy] at hy
          have hx' : RepV C.I (.int k a) (σ x) := hx
          have hy' : RepV C.I (.int k' b) (σ y) := hy
          generalize hsx : σ x = xv at *
          generalize hsy : σ y = yv at *
          cases hx'
          cases hy'
          obtain ⟨z, hz, h⟩ := h
          refine Good.pure (x := .int k z) hw ?_ h (RepV.int _ _)
          simp [resolve, invoke, builtin, Builtin.min_, Builtin.min2, hsx, hsy, ← hz, mn2]
        · exact h.elim
      · exact h.elim
end
end Go.Proofs.YtccldchklemogaaW.AM
