/- The abstract machine: what an operation comes to. -/
import Derived.Test.YtccldchklemogaaAm5
import Derived.Laws.BytesArg
set_option linter.unusedSectionVars false
set_option linter.unusedVariables false
set_option linter.unusedSimpArgs false
namespace Go.Proofs.YtccldchklemogaaW.AM
open Go Go.RowKit
variable {TT : Tab}

theorem mapO_ops {C : Cx TT} {ρ : Operand → AV} {σ : Operand → Value} (hρ : ∀ x, RepAV C (ρ x) (σ x)) : ∀ {l : List Operand} {m : List Nat}, mapO (fun x => match ρ x with | .one (.ptr id 0) => some id | _ => none) l = some m →
    FA (fun id v => ∃ b, C.loc id = some (.box b) ∧ v = .pointer (some ⟨b, 0, none⟩)) m (l.map σ)
  | [], m, h => by simp [mapO] at h; subst h; exact .nil
  | x :: l, m, h => by
    simp only [mapO] at h
    split at h
    · rename_i b bs h1 h2
      cases h
      refine .cons ?_ (mapO_ops hρ h2)
      split at h1
      · rename_i id hid
        cases h1
        have := hρ x
        rw [hid] at this
        exact this
      · cases h1
    · cases h

section
variable {G : Env} {C : Cx TT} {hp : Hp} {w : World} {ρ : Operand → AV} {σ : Operand → Value} {K : KO}

theorem good_pure (hw : WR C hp w) {v : AV} {x : Value} {s : Sem Value} (hr : s.run G.P w = .ok x w) (hk : K v hp) (hv : RepAV C v x) : Good G C hp w K ((do pure (.value (← s)) : Sem Next).run G.P w) :=
  ⟨x, v, C, hp, w, .inl (by simp [hr]), hk, hv, Le.refl _, hw, Stp.refl _ _⟩
theorem good_step {x : Value} {w' : World} {s : Sem Value} (hr : s.run G.P w = .ok x w') (hs : Step C w K x w') : Good G C hp w K ((do pure (.value (← s)) : Sem Next).run G.P w) := by
  obtain ⟨v, C', hp', h1, h2, h3, h4, h5⟩ := hs
  exact ⟨x, v, C', hp', w', .inl (by simp [hr]), h1, h2, h3, h4, h5⟩

theorem move_sound (hG : G.Ok) (hw : WR C hp w) {h rid i : Nat} {t : TypeId} {v : AV} {x : Value} (hv : RepAV C v x) (hm : moveP G h rid i t v hp K) : Step C w K x w := by
  unfold moveP at hm
  split at hm
  · rename_i id g
    split at hm
    · rename_i e sz es g' pin hcs
      obtain ⟨rfl, hk⟩ := hm
      obtain ⟨C', v', hloc, hr, hl, hwr, hst⟩ := pin_own hw id e sz g es pin hcs
      obtain ⟨_, g3, sz3, v3, k1, k2, k3⟩ := hv
      rw [hloc] at k1; cases k1
      rw [k3 rfl]
      exact ⟨_, C', _, hk, hr, hl, hwr, hst⟩
    · exact hm.elim
  · split at hm
    · rename_i ti hti
      split at hm
      · rename_i e he
        split at hm
        · rename_i te hte
          obtain ⟨h0, h1, h2⟩ := hm
          rw [show x = _ from hv]
          obtain ⟨k1, k2, k3⟩ := new_own hw (pid rid i) h1 (pid_ge _ _) e te.size 0 [] false (.slice none 0 0) [] h0 (World.ownsRow_nil w 0 e te.size) ⟨by simp, by simp⟩ ⟨rfl, rfl, rfl, Nat.le_refl _, fun _ _ _ => rfl⟩ (fun b hb => by cases hb)
          exact ⟨_, _, _, h2, ⟨rfl, 0, te.size, _, Cx.set_same _ _ _, Nat.le_refl _, fun _ => rfl⟩, k1, k2, k3⟩
        · exact hm.elim
      · exact hm.elim
    · exact hm.elim
  · exact ⟨_, C, hp, hm, wkV_rep 3 hv, Le.refl _, hw, Stp.refl _ _⟩
  · exact ⟨_, C, hp, hm, hv, Le.refl _, hw, Stp.refl _ _⟩

theorem frzL_sound : ∀ (cs : List A0) {C : Cx TT} {hp : Hp} (_ : WR C hp w) {xs : List Value} (_ : FA (RepA C) cs xs) {K : List VV → Hp → Prop} (_ : frzL cs hp K), ∃ C' hp' vs, K vs hp' ∧ FA (RepV C'.I) vs xs ∧ Le C C' ∧ WR C' hp' w ∧ Stp C C' w w
  | [], C, hp, hw, xs, hr, K, h => by
    cases hr
    exact ⟨C, hp, [], h, .nil, Le.refl _, hw, Stp.refl _ _⟩
  | a :: l, C, hp, hw, xs, hr, K, h => by
    cases hr with
    | cons hab t =>
      simp only [frzL] at h
      split at h
      · rename_i id g
        split at h
        · rename_i e sz es g' pin hcs
          obtain ⟨rfl, h⟩ := h
          obtain ⟨C1, v', hloc, hr1, hl, hwr, hst⟩ := pin_own hw id e sz g es pin hcs
          obtain ⟨_, g3, sz3, v3, k1, k2, k3⟩ := hab
          rw [hloc] at k1; cases k1
          obtain ⟨C', hp', vs, q1, q2, q3, q4, q5⟩ := frzL_sound l hwr (fa_imp (fun _ _ h => h.mono hl) t) h
          refine ⟨C', hp', _, q1, .cons ?_ q2, hl.trans q3, q4, hst.trans q5⟩
          rw [k3 rfl]
          exact RepV.mono q3.I hr1
        · rename_i e sz es g' hcs
          obtain ⟨rfl, h⟩ := h
          obtain ⟨C1, v', hloc, _, hr1, hl, hwr, hst⟩ := pin_tree hw id e sz g es hcs
          obtain ⟨_, g3, sz3, v3, k1, k2, k3⟩ := hab
          rw [hloc] at k1; cases k1
          obtain ⟨C', hp', vs, q1, q2, q3, q4, q5⟩ := frzL_sound l hwr (fa_imp (fun _ _ h => h.mono hl) t) h
          refine ⟨C', hp', _, q1, .cons ?_ q2, hl.trans q3, q4, hst.trans q5⟩
          rw [k3 rfl]
          exact RepV.mono q3.I hr1
        · exact h.elim
      · split at h
        · rename_i v hv
          obtain ⟨C', hp', vs, q1, q2, q3, q4, q5⟩ := frzL_sound l hw t h
          exact ⟨C', hp', _, q1, .cons (RepV.mono q3.I (toVV_rep hv hab)) q2, q3, q4, q5⟩
        · exact h.elim
theorem homeB_sound (hG : G.Ok) (hw : WR C hp w) {rid i : Nat} {ti : TI} {cs : List A0} {xs : List Value} (hr : FA (RepA C) cs xs) (h1 : ∀ u ∈ xs, u.oneCell' = true) (h : homeB G rid i ti cs hp K) : Step C w K (.agg xs.toArray) w := by
  unfold homeB at h
  split at h
  · rename_i k hk
    split at h
    · rename_i e he
      split at h
      · rename_i te hte
        obtain ⟨⟨h0, hn⟩, hv, hkk⟩ := h
        obtain ⟨k1, k2, k3⟩ := new_own hw (pid rid (i + 256)) hn (pid_ge _ _) e te.size 0 [] false (.slice none 0 0) [] h0 (World.ownsRow_nil w 0 e te.size) ⟨by simp, by simp⟩ ⟨rfl, rfl, rfl, Nat.le_refl _, fun _ _ _ => rfl⟩ (fun b hb => by cases hb)
        obtain ⟨hlt, hnr, _⟩ := List.findIdx?_eq_some_iff_getElem.1 hk
        have hnil : cs[k] = .nilrow := by
          revert hnr
          cases cs[k] <;> simp [isNR]
        obtain ⟨b, hb1, hb2⟩ := fa_get hr (i := k) (a := .nilrow) (by rw [List.getElem?_eq_getElem hlt, hnil])
        have hbk : b = .slice none 0 0 := hb2
        subst hbk
        have hxl := fa_len hr
        have hset : setAt xs k [.slice none 0 0] = xs := by
          have hk2 : k < xs.length := by omega
          have e1 : xs[k] = .slice none 0 0 := by
            have := List.getElem?_eq_getElem hk2
            rw [this] at hb1; exact Option.some.inj hb1
          unfold setAt
          have e2 : xs.drop k = xs[k] :: xs.drop (k + 1) := List.drop_eq_getElem_cons hk2
          conv => rhs; rw [← List.take_append_drop k xs, e2, e1]
          simp
        have hr2 : FA (RepA (C.set (pid rid (i + 256)) (.own 0 te.size (.slice none 0 0)))) ((setAt cs k [.ref (pid rid (i + 256)) 0]).map (wk 3)) xs := by
          refine wkL_rep 3 ?_
          rw [← hset]
          exact fa_setAt (fa_imp (fun _ _ h => h.mono k1) hr) (.cons ⟨rfl, 0, te.size, _, Cx.set_same _ _ _, Nat.le_refl _, fun _ => rfl⟩ .nil) k
        obtain ⟨n1, n2, n3⟩ := new_virt k2 (pid rid i) hv (pid_ge _ _) _ xs hr2 h1
        exact ⟨_, _, _, hkk, ⟨xs, Cx.set_same _ _ _, rfl⟩, k1.trans n1, n2, k3.trans n3⟩
      · exact h.elim
    · exact h.elim
  · exact h.elim

theorem fieldPlace_run {P : Program} {t ti i d z} (hs : TiS P t ti i d z) {f off ft sz : Nat} (hf : ti.flds[f]? = some (off, ft, sz)) (h0 : 0 < sz) (ad : Addr) : (Instr.fieldAt t (.pointer (some ad)) f).run P w = .ok (.pointer (some (ad.add off))) w := by
  have hfl := hs.flds
  have hst : ∃ fs, d = .struct fs := by
    cases d <;> simp [dFl] at hfl <;> first | exact ⟨_, rfl⟩ | (simp [hfl] at hf; done)
  obtain ⟨fs, rfl⟩ := hst
  have hfl' : fldsOf P fs.toList = some ti.flds := hs.flds
  have hm := mapO_fa hfl'
  obtain ⟨fl, h1, h2⟩ := fa_get' hm hf
  obtain ⟨ii, hi, he⟩ := Option.map_eq_some_iff.1 h2
  have h1' : fs[f]? = some fl := by simpa using h1
  simp only [Prod.mk.injEq] at he
  obtain ⟨e1, e2, e3⟩ := he
  have hs2 : (sizeOf fl.type).run P w = .ok sz w := by simp [sizeOf, typeInfo, hi, e3]
  have hne : ¬ sz = 0 := by omega
  simp only [Instr.fieldAt, Sem.run_bind, run_underlying hs.und, Result.andThen_ok, h1', Instr.sureAddr, Sem.run_pure, fieldPlace, hs2, hne, if_false, e1]

theorem part_run {P : Program} {t ti i d z} (hs : TiS P t ti i d z) (off : Nat) (cs : List Value) {R : Value → Prop} (hr : if ti.agg = true then off + ti.size ≤ cs.length ∧ R (.agg ((cs.drop off).take ti.size).toArray) else ∃ u, cs[off]? = some u ∧ R u) :
    ∃ x, (part t cs.toArray off).run P w = .ok x w ∧ R x := by
  by_cases ha : ti.agg = true
  · rw [if_pos ha] at hr
    refine ⟨_, ?_, hr.2⟩
    simp only [part, Sem.run_bind, run_isAgg hs, Result.andThen_ok, ha, if_true, run_sizeOf hs, Sem.run_pure]
    congr 2
    apply Array.ext'
    simp [List.extract_eq_take_drop]
  · rw [if_neg ha] at hr
    obtain ⟨u, hu, hR⟩ := hr
    refine ⟨u, ?_, hR⟩
    simp only [part, Sem.run_bind, run_isAgg hs, Result.andThen_ok, ha, if_false, Bool.false_eq_true]
    simp [hu]

theorem make_rows {I : Nat → Nat → Option Value} {te : TI} {z : Value} (hz : te.zero = z.cells.toList) {zl : List VV} (hzl : zeroVV te = some zl) (h0 : 0 < te.size) (hl : zl.length = te.size) (ha : te.agg = true ∨ te.size = 1) (n : Nat) :
    RowR I te.size (List.replicate n (elemOf te.agg zl)) (madeCells z.cells (n * te.size)).toList := by
  obtain ⟨hfa, hone⟩ := zeroVV_rep I hzl
  rw [hz] at hfa hone
  have hzs : z.cells.size = te.size := by have := fa_len hfa; rw [← hl, this]; simp
  have hcell : ∀ j, j < n * te.size → (madeCells z.cells (n * te.size)).toList[j]? = some (z.cells[j % te.size]!) := fun j hj => by
    simp [madeCells, hj, hzs]
  have hec : (elemOf te.agg zl).cells = zl := by
    unfold elemOf
    split
    · rfl
    · rename_i hna
      have h1 : te.size = 1 := by rcases ha with h | h; exact absurd h hna; exact h
      obtain ⟨x, rfl⟩ := List.length_eq_one_iff.1 (hl.trans h1)
      have hx : ∀ cs, x ≠ .agg cs := fun cs e => by
        subst e
        have hm := mapO_fa hzl
        obtain ⟨a, _, h3⟩ := fa_get' (i := 0) hm rfl
        unfold ofS at h3
        split at h3 <;> cases h3
      show VV.cells x = [x]
      cases x <;> first | rfl | exact absurd rfl (hx _)
  refine ⟨fun u hu => ?_, fun i e he => ?_⟩
  · obtain ⟨j, hj⟩ := List.mem_iff_getElem?.1 hu
    have hlt : j < n * te.size := by have := (List.getElem?_eq_some_iff.1 hj).1; simpa [size_madeCells] using this
    rw [hcell j hlt] at hj
    cases hj
    refine hone _ ?_
    have : j % te.size < z.cells.size := by rw [hzs]; exact Nat.mod_lt _ h0
    simp [this]
  · have hi : i < n := by have := (List.getElem?_eq_some_iff.1 he).1; simpa using this
    have he' : e = elemOf te.agg zl := by rw [List.getElem?_replicate, if_pos hi] at he; exact (Option.some.inj he).symm
    subst he'
    rw [hec]
    refine ⟨hl, fun j c hc => ?_⟩
    have hj : j < te.size := by rw [← hl]; exact (List.getElem?_eq_some_iff.1 hc).1
    obtain ⟨u, hu, hr⟩ := fa_get hfa hc
    refine ⟨u, ?_, hr⟩
    have hlt : i * te.size + j < n * te.size := by
      have := Nat.mul_le_mul_right te.size (show i + 1 ≤ n from hi)
      rw [Nat.add_mul, Nat.one_mul] at this; omega
    rw [hcell _ hlt]
    have hm : (i * te.size + j) % te.size = j := by rw [Nat.add_comm, Nat.add_mul_mod_self_right]; exact Nat.mod_eq_of_lt hj
    rw [hm]
    have hj' : j < z.cells.size := by omega
    simp [hj'] at hu ⊢
    exact hu

theorem lit_rows {I : Nat → Nat → Option Value} {sz : Nat} (h0 : 0 < sz) {es : List VV} {vs : List Value} (h : FA (RepV I) es vs) (hs : ∀ e ∈ es, e.cells.length = sz) : RowR I sz es (vs.flatMap fun v => v.cells.toList) := by
  have hvs : ∀ v ∈ vs, v.cells.size = sz := fun v hv => by
    obtain ⟨j, hj⟩ := List.mem_iff_getElem?.1 hv
    obtain ⟨e, he, hr⟩ := fa_get' h hj
    have := fa_len hr.cells.1
    rw [← hs e (List.mem_iff_getElem?.2 ⟨j, he⟩), this]; simp
  refine ⟨fun u hu => ?_, fun i e he => ?_⟩
  · obtain ⟨v, hv, hu'⟩ := List.mem_flatMap.1 hu
    obtain ⟨j, hj⟩ := List.mem_iff_getElem?.1 hv
    obtain ⟨e, he, hr⟩ := fa_get' h hj
    exact hr.cells.2 u hu'
  · refine ⟨hs e (List.mem_iff_getElem?.2 ⟨i, he⟩), fun j c hc => ?_⟩
    obtain ⟨v, hv, hr⟩ := fa_get h he
    obtain ⟨u, hu, hru⟩ := fa_get hr.cells.1 hc
    refine ⟨u, ?_, hru⟩
    have hj : j < sz := by rw [← hs e (List.mem_iff_getElem?.2 ⟨i, he⟩)]; exact (List.getElem?_eq_some_iff.1 hc).1
    rw [Go.Great.flat_get h0 vs hvs]
    have h1 : (i * sz + j) / sz = i := by rw [Nat.add_comm, Nat.add_mul_div_right _ _ h0, Nat.div_eq_of_lt hj]; omega
    have h2 : (i * sz + j) % sz = j := by rw [Nat.add_comm, Nat.add_mul_mod_self_right]; exact Nat.mod_eq_of_lt hj
    rw [h1, h2, hv]
    simpa using hu

theorem sl_und {P : Program} {t ti i d z} (hs : TiS P t ti i d z) (h : ti.sl.isSome = true) : ∃ e, ti.sl = some e ∧ P.underlying t = some (.slice e) := by
  obtain ⟨e, he⟩ := Option.isSome_iff_exists.1 h
  have hd : d = .slice e := by have := hs.sl; rw [he] at this; cases d <;> simp [dSl] at this; rw [this]
  exact ⟨e, he, by rw [← hd]; exact hs.und⟩
theorem str_und {P : Program} {t ti i d z} (hs : TiS P t ti i d z) (h : ti.str = true) : P.underlying t = some .string := by
  have hd : d = .string := by have := hs.str; rw [h] at this; cases d <;> simp [dStr] at this; rfl
  rw [← hd]; exact hs.und
theorem len_sound (hw : WR C hp w) {P : Program} {t ti i d z} (hs : TiS P t ti i d z) {v : AV} {x : Value} {ty : TypeId} (hv : RepAV C v x) (h : lenP ti v hp K) :
    ∃ u a, (Builtin.len_ #[t] ty #[x]).run P w = .ok a w ∧ K u hp ∧ RepAV C u a := by
  have key : ∀ (a : Option Addr) (n cap : Nat), ti.sl.isSome = true → (Builtin.len_ #[t] ty #[.slice a n cap]).run P w = .ok (.int .i64 n) w := fun a n cap hsl => by
    obtain ⟨e, _, he⟩ := sl_und hs hsl
    simp [Builtin.len_, run_underlying he, goInt]
  unfold lenP at h
  split at h
  · rename_i s
    have hv' : RepV C.I (.str s) x := hv
    cases hv'
    exact ⟨_, .int .i64 s.size, by simp [Builtin.len_, run_underlying (str_und hs h.1), goInt], h.2, .int _ _⟩
  · rename_i es
    obtain ⟨hsl, m, rfl, hk'⟩ := h
    obtain ⟨a, cap, rfl, _⟩ := rowCells hw.inI (show RepV C.I (.row es) x from hv)
    exact ⟨_, _, key _ _ _ hsl, hk', .int _ _⟩
  · rw [show x = _ from hv]
    exact ⟨_, _, key _ _ _ h.1, h.2, .int _ _⟩
  · rename_i id g
    obtain ⟨hsl, h⟩ := h
    split at h
    · rename_i e' sz es g' pin hcs
      obtain ⟨rfl, m, rfl, hk'⟩ := h
      obtain ⟨l, hloc, hob⟩ := hw.ob _ _ hcs
      cases l with
      | virt _ => exact hob.elim
      | box b => exact hob.elim
      | own g2 sz2 v =>
        obtain ⟨rfl, rfl, hsz, xs, hrow, hrr, _⟩ := hob
        obtain ⟨_, g3, sz3, v3, k1, k2, k3⟩ := hv
        rw [hloc] at k1; cases k1
        rw [k3 rfl]
        obtain ⟨a, cap, rfl, _⟩ := ownCells hrow hsz hrr
        exact ⟨_, _, key _ _ _ hsl, hk', .int _ _⟩
    · exact h.elim
  · exact h.elim
end
theorem bytes_run {P : Program} {I : Nat → Nat → Option Value} {w : World} {s d e : TypeId} (hs : P.underlying s = some (.slice e)) (he : P.underlying e = some (.int .u8)) (hd : P.underlying d = some .string) {xs : List Int} {y : Value} (h : Src I w (xs.map (VV.int .u8)) y) : (convert s d y).run P w = .ok (.string (strOfNums xs)) w := by
  obtain ⟨a, cap, rfl, h⟩ := h
  rw [run_convert_bytes_string w s d e _ _ _ hs he hd]
  have fin : ∀ ad : Addr, (loadCells ad xs.length).run P w = .ok (xs.map (Value.int .u8)).toArray w → (Conv.bytesToString (.slice (some ad) (xs.map (VV.int .u8)).length cap)).run P w = .ok (.string (strOfNums xs)) w := fun ad hl => by
    rw [List.length_map, run_bytesToString w ad _ cap xs hl, foldl_push_bytes]
    simp [strOfNums, ByteArray.empty, ByteArray.emptyWithCapacity]
    rfl
  rcases h with ⟨h0, _⟩ | ⟨ad, sz, us, rfl, hsz, hl, hr, hc⟩
  · have : xs = [] := by simpa using h0
    subst this
    cases a with
    | none => rfl
    | some ad => exact fin ad (run_loadCells_list (P := P) w ad [] (fun j v hj => by simp at hj))
  · refine fin ad ?_
    have := run_loadCells_list (P := P) w ad (xs.map (Value.int .u8)) (fun j v hj => by
      rw [List.getElem?_map] at hj
      obtain ⟨n, hn, rfl⟩ := Option.map_eq_some_iff.1 hj
      have h1 := hr.2 j (.int .u8 n) (by rw [List.getElem?_map, hn]; rfl)
      have hz : sz = 1 := h1.1.symm
      subst hz
      obtain ⟨u, hu, hrep⟩ := h1.2 0 (.int .u8 n) rfl
      have := hc (j * 1 + 0) u hu
      cases hrep
      simpa using this)
    simpa using this
end Go.Proofs.YtccldchklemogaaW.AM
