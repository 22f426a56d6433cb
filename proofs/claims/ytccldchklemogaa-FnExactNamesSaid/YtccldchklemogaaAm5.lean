/- The abstract machine: single operations that write, append and make. -/
import Derived.Test.YtccldchklemogaaAm4
set_option linter.unusedSectionVars false
set_option linter.unusedVariables false
set_option linter.unusedSimpArgs false
namespace Go.Proofs.YtccldchklemogaaW.AM
open Go Go.RowKit
variable {TT : Tab}

section
variable {G : Env} {C : Cx TT} {hp : Hp} {w : World} {ρ : Operand → AV} {σ : Operand → Value} {K : KO}

/-- A step of memory, with a value. -/
def Step (C : Cx TT) (w : World) (K : KO) (x : Value) (w' : World) : Prop := ∃ v C' hp', K v hp' ∧ RepAV C' v x ∧ Le C C' ∧ WR C' hp' w' ∧ Stp C C' w w'

theorem grown_set (w : World) (g : Nat) (cs : Array Value) : w.grownBy (w.setRow g cs) (some g) :=
  ⟨rfl, rfl, rfl, by simp, fun k _ hk => setRow_other w g k _ fun e => hk (by rw [e])⟩

theorem setAt_get {α : Type} (cs : List α) (off : Nat) (vs : List α) (j : Nat) (h : off + vs.length ≤ cs.length) : (setAt cs off vs)[j]? = if j < off then cs[j]? else if j < off + vs.length then vs[j - off]? else cs[j]? := by
  unfold setAt
  rw [List.getElem?_append, List.getElem?_append]
  simp only [List.length_append, List.length_take]
  have e : min off cs.length = off := by omega
  rw [e]
  by_cases h5 : j < off
  · rw [if_pos (by omega), if_pos h5, if_pos h5, List.getElem?_take, if_pos h5]
  · by_cases h6 : j < off + vs.length
    · rw [if_pos h6, if_neg h5, if_neg h5, if_pos h6]
    · rw [if_neg h6, if_neg h5, if_neg h6, List.getElem?_drop]
      congr 1; omega
theorem stE_cells {u v u' : VV} {off : Nat} (h : stE u off v = some u') : u'.cells = setAt u.cells off v.cells ∧ off + v.cells.length ≤ u.cells.length := by
  unfold stE at h
  split at h
  · split at h
    · rename_i hle; cases h; exact ⟨rfl, hle⟩
    · cases h
  · rename_i hu
    split at h
    · cases h
    · rename_i hv
      cases h
      have h1 : u.cells = [u] := by cases u <;> first | rfl | exact absurd rfl (hu _)
      have h2 : v.cells = [v] := by cases v <;> first | rfl | exact absurd rfl (hv _)
      rw [h1, h2]
      exact ⟨rfl, by simp⟩
    · cases h

theorem store_sound (hG : G.Ok) (hw : WR C hp w) (hn : Nat) (t : TypeId) {a v : AV} {x y : Value} (ha : RepAV C a x) (hv : RepAV C v y) (h : storeP G hn t a v hp K) : ∃ w', (Instr.storeAt t x y).run G.P w = .ok () w' ∧ Step C w K undef w' := by
  unfold storeP at h
  split at h
  · exact h.elim
  · rename_i ti hti
    obtain ⟨i, d, z, hs⟩ := ti_spec (hG.ti _ _ hti)
    split at h
    · exact h.elim
    · rename_i id off j
      split at h
      · rename_i cs ds hcs hds
        obtain ⟨h1, h2, h3⟩ := h
        obtain ⟨l, hloc, hob⟩ := hw.ob _ _ hcs
        obtain ⟨l2, hloc2, hob2⟩ := hw.ob _ _ hds
        cases l2 with
        | box _ => exact hob2.elim
        | own _ _ _ => exact hob2.elim
        | virt us =>
          cases l with
          | virt _ => exact hob.elim
          | own _ _ _ => exact hob.elim
          | box b =>
            obtain ⟨T, vs, hb, hr, hone, hI⟩ := hob
            obtain ⟨b', hb', rfl⟩ := ha
            rw [hloc] at hb'; cases hb'
            obtain ⟨us', hu', rfl⟩ := hv
            rw [hloc2] at hu'; cases hu'
            obtain ⟨hvc, hv1⟩ := hob2
            have hvl := fa_len hvc
            have hl := fa_len hr
            have hrun := run_storeVar hs b off T vs (.agg us.toArray) hb (by rw [← h1, hvl]; simp [Value.cells]) (by simpa [Value.cells] using hv1) (by simp [Value.cells]; omega)
            refine ⟨_, by simpa [Instr.storeAt, Instr.sureAddr] using hrun, .tup [], C, _, h3, ⟨[], rfl, .nil⟩, Le.refl _, ?_⟩
            simp only [Value.cells]
            exact set_box hw id cs _ b T _ hcs hloc (setRow_heap w b _ _ T _ hb) (fa_setAt hr hvc off) (fun u hu => by rcases mem_setAt hu with h | h; exact hone u h; exact hv1 u h) (grown_set w b _) hI
      · exact h.elim
    · exact h.elim
    · rename_i id off v hnd hns
      have hnd' : v ≠ .dead := fun e => hnd (by rw [e])
      obtain ⟨hvc, hv1⟩ := RepA.cells hv hnd' (fun id' e => by subst e; first | exact hns _ rfl | exact hns _ _ rfl | exact hns _ _ _ rfl | simp_all)
      have hvl := fa_len hvc
      split at h
      · rename_i cs hcs
        obtain ⟨h1, h2, h3⟩ := h
        obtain ⟨l, hloc, hob⟩ := hw.ob _ _ hcs
        cases l with
        | virt _ => exact hob.elim
        | own _ _ _ => exact hob.elim
        | box b =>
          obtain ⟨T, vs, hb, hr, hone, hI⟩ := hob
          obtain ⟨b', hb', rfl⟩ := ha
          rw [hloc] at hb'; cases hb'
          have hl := fa_len hr
          have hrun := run_storeVar hs b off T vs y hb (by rw [← h1, hvl]; simp) hv1 (by simp at hvl; omega)
          refine ⟨_, by simpa [Instr.storeAt, Instr.sureAddr] using hrun, .tup [], C, _, h3, ⟨[], rfl, .nil⟩, Le.refl _, ?_⟩
          exact set_box hw id cs _ b T _ hcs hloc (setRow_heap w b _ _ T _ hb) (fa_setAt hr (wkL_rep hn hvc) off) (fun u hu => by rcases mem_setAt hu with h | h; exact hone u h; exact hv1 u h) (grown_set w b _) hI
      · exact h.elim
    · rename_i id g k off v
      obtain ⟨hvc, hv1⟩ := RepV.cells hv
      have hvl := fa_len hvc
      split at h
      · rename_i e sz es g' pin hcs
        obtain ⟨rfl, rfl, h1, el, hel, h⟩ := h
        split at h
        rotate_left
        · exact h.elim
        rename_i el' hel'
        rw [named_eq] at h
        obtain ⟨hput, h2⟩ := stE_cells hel'
        have h3 := h
        obtain ⟨l, hloc, hob⟩ := hw.ob _ _ hcs
        cases l with
        | virt _ => exact hob.elim
        | box b => exact hob.elim
        | own g2 sz2 vv =>
          obtain ⟨rfl, rfl, hsz, xs, hrow, hrr, hpin⟩ := hob
          obtain ⟨_, g3, sz3, v3, k1, k2, k3⟩ := ha
          rw [hloc] at k1; cases k1
          obtain ⟨b, n, cap, e1, rfl⟩ := k3 rfl
          subst e1
          have hrw := hrr.2 k el hel
          have hk : k < es.length := (List.getElem?_eq_some_iff.1 hel).1
          have hxl : xs.length = es.length * sz := hrow.1
          rcases hrow.2 with ⟨hh, _⟩ | ⟨b', cap', cur, hh, _, hb, hnc, hcm, hcsz, htake⟩
          · cases hh
          · cases hh
            have hmul : k * sz + sz ≤ es.length * sz := by have := Nat.mul_le_mul_right sz (show k + 1 ≤ es.length from hk); rwa [Nat.add_mul, Nat.one_mul] at this
            have hcap : es.length * sz ≤ cap * sz := Nat.mul_le_mul_right _ hnc
            have hyl : y.cells.toList.length = v.cells.length := hvl.symm
            have hfit : k * sz + off + y.cells.toList.length ≤ es.length * sz := by have := hrw.1; omega
            have hb' : w.heap[b]? = some (.cells cur.toList.toArray e (0, 0)) := by simpa using hb
            have hrun := run_storeVar hs b (k * sz + off) e cur.toList y hb' (by rw [← h1, hvl]; simp) hv1 (by simp at hyl ⊢; omega)
            have hnew := setRow_heap w b _ (setAt cur.toList (k * sz + off) y.cells.toList).toArray e _ hb'
            have hxs' : (setAt cur.toList (k * sz + off) y.cells.toList).take (es.length * sz) = setAt xs (k * sz + off) y.cells.toList := by
              apply List.ext_getElem?
              intro j
              have hcl : cur.toList.length = cap * sz := by simpa using hcsz
              rw [List.getElem?_take, setAt_get _ _ _ _ (by omega), setAt_get _ _ _ _ (by omega), ← htake, List.getElem?_take]
              by_cases hj : j < es.length * sz
              · rw [if_pos hj, if_pos hj]
              · rw [if_neg hj, if_neg hj, if_neg (by omega), if_neg (by omega)]
            have hsl := setAt_len xs (k * sz + off) y.cells.toList (by omega)
            refine ⟨_, by simpa [Instr.storeAt, Instr.sureAddr] using hrun, .tup [], C.set id (.own g sz (.slice (some ⟨b, 0, none⟩) es.length cap)), _, h3, ⟨[], rfl, .nil⟩, ?_⟩
            have hlen' : (es.set k el').length = es.length := by simp
            have := next_own hw id e sz g g es (es.set k el') false false _ (.slice (some ⟨b, 0, none⟩) es.length cap) xs (setAt xs (k * sz + off) y.cells.toList) hcs hloc hsz (Nat.le_refl _) (fun _ => rfl)
              (w' := w.setRow b (setAt cur.toList (k * sz + off) y.cells.toList).toArray) ?_ ?_ (grown_set w b _) (fun b' h => .inr h) (fun b' j u h hu => ?_) (fun b' j u h hu => ?_)
            · exact this
            · rw [hlen']
              exact ⟨by rw [hsl]; exact hxl, .inr ⟨b, cap, _, rfl, Nat.zero_le _, hnew, hnc, hcm, by simp [setAt_len cur.toList (k * sz + off) y.cells.toList (by simp; simp at hyl; omega), hcsz], by simpa using hxs'⟩⟩
            · refine ⟨fun u hu => by rcases mem_setAt hu with h | h; exact hrr.1 u h; exact hv1 u h, fun i e' he' => ?_⟩
              rw [List.getElem?_set] at he'
              split at he'
              · rename_i hik
                subst hik
                · cases he'
                  have hlen3 := setAt_len el.cells off v.cells h2
                  refine ⟨by rw [hput, hlen3]; exact hrw.1, fun j c hc => ?_⟩
                  rw [hput, setAt_get _ _ _ _ h2] at hc
                  have h0 := hrw.1
                  rw [setAt_get _ _ _ _ (by omega)]
                  by_cases h5 : j < off
                  · rw [if_pos h5] at hc
                    obtain ⟨u, hu, hru⟩ := hrw.2 j c hc
                    exact ⟨u, by rw [if_pos (by omega)]; exact hu, hru⟩
                  · rw [if_neg h5] at hc
                    by_cases h6 : j < off + v.cells.length
                    · rw [if_pos h6] at hc
                      obtain ⟨u, hu, hru⟩ := fa_get hvc hc
                      exact ⟨u, by rw [if_neg (by omega), if_pos (by omega), ← hu]; congr 1; omega, hru⟩
                    · rw [if_neg h6] at hc
                      obtain ⟨u, hu, hru⟩ := hrw.2 j c hc
                      exact ⟨u, by rw [if_neg (by omega), if_neg (by omega)]; exact hu, hru⟩
              · rename_i hik
                have hold := hrr.2 i e' he'
                refine ⟨hold.1, fun j c hc => ?_⟩
                obtain ⟨u, hu, hru⟩ := hold.2 j c hc
                refine ⟨u, ?_, hru⟩
                have hjs : j < sz := by rw [← hold.1]; exact (List.getElem?_eq_some_iff.1 hc).1
                have h0 := hrw.1
                have hfar : i * sz + j < k * sz ∨ (k + 1) * sz ≤ i * sz + j := by
                  rcases Nat.lt_or_gt_of_ne (fun e => hik e.symm) with h8 | h8
                  · left
                    have := Nat.mul_le_mul_right sz (show i + 1 ≤ k from h8)
                    rw [Nat.add_mul, Nat.one_mul] at this
                    omega
                  · right
                    have := Nat.mul_le_mul_right sz (show k + 1 ≤ i from h8)
                    omega
                rw [Nat.add_mul, Nat.one_mul] at hfar
                rw [setAt_get _ _ _ _ (by omega)]
                by_cases h9 : i * sz + j < k * sz
                · rw [if_pos (by omega)]; exact hu
                · rw [if_neg (by omega), if_neg (by omega)]; exact hu
            · exact absurd hu (by have := hpin b' j u h; intro hu; exact Bool.noConfusion (this hu).1)
            · exact absurd hu (by have := hpin b' j u h; intro hu; exact Bool.noConfusion (this hu).1)
      · exact h.elim
    · exact h.elim

theorem rowR_append {I : Nat → Nat → Option Value} {sz : Nat} {es es' : List VV} {xs xs' : List Value} (h : RowR I sz es xs) (h' : RowR I sz es' xs') (hl : xs.length = es.length * sz) : RowR I sz (es ++ es') (xs ++ xs') := by
  refine ⟨fun u hu => by rcases List.mem_append.1 hu with h1 | h1; exact h.1 u h1; exact h'.1 u h1, fun i e he => ?_⟩
  rw [List.getElem?_append] at he
  split at he
  · rename_i hi
    refine ⟨(h.2 i e he).1, fun j c hc => ?_⟩
    obtain ⟨u, hu, hr⟩ := (h.2 i e he).2 j c hc
    exact ⟨u, by rw [List.getElem?_append, if_pos (List.getElem?_eq_some_iff.1 hu).1]; exact hu, hr⟩
  · rename_i hi
    refine ⟨(h'.2 _ e he).1, fun j c hc => ?_⟩
    obtain ⟨u, hu, hr⟩ := (h'.2 _ e he).2 j c hc
    have hm : (i - es.length) * sz + es.length * sz = i * sz := by rw [← Nat.add_mul]; congr 1; omega
    refine ⟨u, ?_, hr⟩
    rw [List.getElem?_append, if_neg (by omega), ← hu]
    congr 1; omega

/-- A row's cells in memory. -/
def Src (I : Nat → Nat → Option Value) (w : World) (es : List VV) (y : Value) : Prop :=
  ∃ (a : Option Addr) (cap : Nat), y = .slice a es.length cap ∧ ((es = [] ∧ (a = none → cap = 0)) ∨ ∃ ad sz xs, a = some ad ∧ 0 < sz ∧ xs.length = es.length * sz ∧ RowR I sz es xs ∧ ∀ (j : Nat) u, xs[j]? = some u → w.cell? (ad.add j) = some u)
theorem rowCells {I : Nat → Nat → Option Value} {w : World} (hI : ∀ b j v, I b j = some v → w.cell? ⟨b, j, none⟩ = some v) {es : List VV} {x : Value} (h : RepV I (.row es) x) : Src I w es x := by
  cases h with
  | row0 a cap h0 => exact ⟨a, cap, rfl, .inl ⟨rfl, h0⟩⟩
  | row es b off cap sz u hsz hc hI' h1 hs hh =>
    refine ⟨_, cap, rfl, .inr ⟨_, sz, (List.range (es.length * sz)).map u, rfl, hsz, by simp, ⟨fun v hv => ?_, fun i e he => ⟨hs i e he, fun j c hc' => ⟨u (i * sz + j), ?_, hh i e j c he hc'⟩⟩⟩, fun j v hv => ?_⟩⟩
    · obtain ⟨j, hj, rfl⟩ := List.mem_map.1 hv
      exact h1 j (List.mem_range.1 hj)
    · have hi : i < es.length := (List.getElem?_eq_some_iff.1 he).1
      have hj : j < sz := by rw [← hs i e he]; exact (List.getElem?_eq_some_iff.1 hc').1
      have : i * sz + sz ≤ es.length * sz := by have := Nat.mul_le_mul_right sz (show i + 1 ≤ es.length from hi); rwa [Nat.add_mul, Nat.one_mul] at this
      rw [List.getElem?_map, List.getElem?_range (by omega)]; rfl
    · rw [List.getElem?_map] at hv
      obtain ⟨k, hk, rfl⟩ := Option.map_eq_some_iff.1 hv
      obtain ⟨hk1, hk2⟩ := List.getElem?_eq_some_iff.1 hk
      simp at hk1 hk2
      subst hk2
      rw [Addr.add_lit]
      exact hI _ _ _ (hI' _ hk1)
theorem ownCells {w : World} {e sz es v xs} {I : Nat → Nat → Option Value} (hrow : w.ownsRow 0 e sz v es.length xs) (hsz : 0 < sz) (hr : RowR I sz es xs) : Src I w es v := by
  rcases hrow.2 with ⟨rfl, hn⟩ | ⟨g, cap, cur, rfl, _, hb, hnc, hcm, hcs, htake⟩
  · have : es = [] := List.eq_nil_of_length_eq_zero hn
    subst this
    exact ⟨none, 0, rfl, .inl ⟨rfl, fun _ => rfl⟩⟩
  · exact ⟨_, cap, rfl, .inr ⟨_, sz, xs, rfl, hsz, hrow.1, hr, hrow.cells (g := g) rfl⟩⟩
theorem src_rep (hw : WR C hp w) {x : AV} {y : Value} (hx : RepAV C x y) {K' : List VV → Prop} (h : srcP x hp K') : ∃ es, K' es ∧ Src C.I w es y := by
  unfold srcP at h
  split at h
  · exact ⟨_, h, rowCells hw.inI hx⟩
  · exact ⟨[], h, none, 0, hx, .inl ⟨rfl, fun _ => rfl⟩⟩
  · rename_i id g
    split at h
    · rename_i e sz es g' pin hcs
      obtain ⟨rfl, h⟩ := h
      obtain ⟨l, hloc, hob⟩ := hw.ob _ _ hcs
      cases l with
      | virt _ => exact hob.elim
      | box b => exact hob.elim
      | own g2 sz2 v =>
        obtain ⟨rfl, rfl, hsz, xs, hrow, hrr, _⟩ := hob
        obtain ⟨_, g3, sz3, v3, k1, k2, k3⟩ := hx
        rw [hloc] at k1; cases k1
        rw [k3 rfl]
        exact ⟨es, h, ownCells hrow hsz hrr⟩
    · exact h.elim
  · exact h.elim

/-- Append to a row of the call's own. -/
theorem append_run {P : Program} {t ty e : TypeId} {ti te : TI} {i d z ie de ze} (hs : TiS P t ti i d z) (he : ti.sl = some e) (hte : TiS P e te ie de ze) {I : Nat → Nat → Option Value}
    {v : Value} {es : List VV} {xs : List Value} (hown : w.ownsRow 0 e te.size v es.length xs) (hrr : RowR I te.size es xs) {es' : List VV} {y : Value} (hsrc : Src I w es' y)
    (hc : 0 < te.size ∧ te.zero.length = te.size ∧ es.length + es'.length ≤ 9223372036854775807 ∧ (es.length + es'.length) * te.bytes ≤ 140737488355328) (hsz : SzOK es' te.size) :
    ∃ v' w' xs', (Builtin.append_ #[t, t] ty #[v, y]).run P w = .ok v' w' ∧ w'.ownsRow 0 e te.size v' (es ++ es').length xs' ∧ RowR I te.size (es ++ es') xs' ∧ w.grownBy w' v.ownBlock ∧
      (∀ b, v'.ownBlock = some b → w.heap.size ≤ b ∨ v.ownBlock = some b) ∧ (∀ b j u, v.ownBlock = some b → xs[j]? = some u → w'.cell? ⟨b, j, none⟩ = some u) := by
  have hd : d = .slice e := by have := hs.sl; rw [he] at this; cases d <;> simp [dSl] at this; rw [this]
  subst hd
  obtain ⟨h0, hz, h63, hbytes⟩ := hc
  have hxl : xs.length = es.length * te.size := hown.1
  have hold : ∀ b j u, v.ownBlock = some b → xs[j]? = some u → w.cell? ⟨b, j, none⟩ = some u := fun b j u hb hu => by
    have := hown.cells hb j u hu
    rwa [Addr.add_lit, Nat.zero_add] at this
  have hself : w.grownBy w v.ownBlock := ⟨rfl, rfl, rfl, Nat.le_refl _, fun _ _ _ => rfl⟩
  obtain ⟨a, cap', rfl, hsrc⟩ := hsrc
  by_cases ha : a = none
  · subst ha
    have hes' : es' = [] ∧ cap' = 0 := by
      rcases hsrc with ⟨h1, h2⟩ | ⟨_, _, _, h1, _⟩
      · exact ⟨h1, h2 rfl⟩
      · cases h1
    obtain ⟨rfl, rfl⟩ := hes'
    refine ⟨v, w, xs, run_append_owned_none w 0 t ty e ie te.size hs.und hte.info v _ xs hown, by simpa using hown, by simpa using hrr, hself, fun b hb => .inr hb, hold⟩
  · obtain ⟨ad, rfl⟩ := Option.ne_none_iff_exists'.1 ha
    obtain ⟨news, hnl, hnr, hncell⟩ : ∃ news : List Value, news.length = es'.length * te.size ∧ RowR I te.size es' news ∧ ∀ (j : Nat) u, news[j]? = some u → w.cell? (ad.add j) = some u := by
      rcases hsrc with ⟨rfl, _⟩ | ⟨ad', sz, news, h1, h2, h3, h4, h5⟩
      · exact ⟨[], by simp, ⟨by simp, by simp⟩, by simp⟩
      · cases h1
        by_cases hn : es' = []
        · subst hn
          have : news = [] := List.eq_nil_of_length_eq_zero (by simpa using h3)
          subst this
          exact ⟨[], by simp, ⟨by simp, by simp⟩, by simp⟩
        · obtain ⟨x, rest, rfl⟩ := List.exists_cons_of_ne_nil hn
          have : te.size = sz := by rw [← hsz x (by simp), (h4.2 0 x rfl).1]
          subst this
          exact ⟨news, h3, h4, h5⟩
    have hrr' := rowR_append hrr hnr hxl
    have hsize := hte.size
    have hby := hte.bytes
    have hzs : ze.cells.size = te.size := by have := hte.zeros; rw [← hz, this]; simp
    have hmax : es.length + es'.length ≤ maxLen := by simp [maxLen]; omega
    obtain ⟨v', w', hrun, hown', hgr, _⟩ := run_append_own (P := P) w 0 t ty e ie ze te.size te.bytes hs.und hte.info hte.zero hsize.symm hby.symm hzs h0 v es.length xs hown ad es'.length cap' news hnl hncell hnr.1 hmax hbytes (Nat.zero_le _)
    refine ⟨v', w', xs ++ news, hrun, by rw [List.length_append]; exact hown', hrr', hgr, ?_⟩
    rcases hown.2 with ⟨rfl, hn⟩ | ⟨g, cap, cur, rfl, _, hb, hnc, hcm, hcs, htake⟩
    · refine ⟨fun b hb => .inl ?_, fun b j u hb => by cases hb⟩
      have hx0 : xs = [] := List.eq_nil_of_length_eq_zero (by rw [hxl, hn]; simp)
      have hnil := World.ownsRow_nil w w.heap.size e te.size
      obtain ⟨v2, w2, hrun2, hown2, _, _⟩ := run_append_own (P := P) w w.heap.size t ty e ie ze te.size te.bytes hs.und hte.info hte.zero hsize.symm hby.symm hzs h0 _ 0 [] hnil ad es'.length cap' news hnl hncell hnr.1 (by omega) (by have : (0 + es'.length) * te.bytes ≤ (es.length + es'.length) * te.bytes := Nat.mul_le_mul_right _ (by omega); omega) (Nat.le_refl _)
      rw [hrun] at hrun2
      cases hrun2
      exact (hown2.lt b hb).1
    · by_cases hroom : es.length + es'.length ≤ cap
      · have hfit : es.length * ie.size + news.length ≤ cur.size := by
          rw [hnl, hcs, ← hsize, ← Nat.add_mul]; exact Nat.mul_le_mul_right _ hroom
        have hr := run_append_room (P := P) w t ty e ie hs.und hte.info g es.length cap cur hb ad es'.length cap' news (by rw [← hsize]; exact hnl) hncell hnr.1 hroom hfit
        rw [hrun] at hr
        have e1 : v' = .slice (some ⟨g, 0, none⟩) (es.length + es'.length) cap := by injection hr
        subst e1
        refine ⟨fun b hb => .inr hb, fun b j u hb' hu => ?_⟩
        have hgb : g = b := by simpa [Value.ownBlock] using hb'
        subst hgb
        have hj : j < xs.length := (List.getElem?_eq_some_iff.1 hu).1
        have hj2 : j < (es.length + es'.length) * te.size := by rw [Nat.add_mul]; omega
        rw [hown'.cellAt j hj2, List.getElem?_append, if_pos hj]; exact hu
      · have hr := run_append_grow (P := P) w t ty e ie ze hs.und hte.info hte.zero ⟨g, 0, none⟩ es.length cap xs (by rw [← hsize]; exact hxl) (hown.cells (g := g) rfl) ad es'.length cap' news (by rw [← hsize]; exact hnl) hncell (by omega) (by omega) (growslice_fits (by omega) (by rw [← hby]; exact hbytes))
        rw [hrun] at hr
        injection hr with e1 e2
        subst e1 e2
        refine ⟨fun b hb => .inl ?_, fun b j u hb' hu => ?_⟩
        · simp [Value.ownBlock] at hb; omega
        · have h1 := hold b j u hb' hu
          rw [← h1]
          exact World.cell?_of_block (heap_alloc_old w.drew _ _ (block_lt_of_cell h1))

theorem append_sound (hG : G.Ok) (hw : WR C hp w) (rid i : Nat) (t ty : TypeId) {s x : AV} {sv xv : Value} (hs : RepAV C s sv) (hx : RepAV C x xv) (h : appendP G rid i t s x hp K) : ∃ u w', (Builtin.append_ #[t, t] ty #[sv, xv]).run G.P w = .ok u w' ∧ Step C w K u w' := by
  unfold appendP at h
  split at h
  · exact h.elim
  rename_i ti hti
  obtain ⟨ii, d, z, hsi⟩ := ti_spec (hG.ti _ _ hti)
  split at h
  · exact h.elim
  rename_i e he
  split at h
  · exact h.elim
  rename_i te hte
  obtain ⟨ie, de, ze, hse⟩ := ti_spec (hG.ti _ _ hte)
  dsimp only at h
  simp only [named_eq] at h
  split at h
  · -- nothing as yet
    obtain ⟨es', ⟨hc, hsz, hn1, hn2⟩, hsrc⟩ := src_rep hw hx h
    rw [show sv = _ from hs]
    obtain ⟨v', w', xs', hrun, hown', hrr', hgr, hblk, _⟩ := append_run (ty := ty) hsi he hse (World.ownsRow_nil w 0 e te.size) (es := []) (I := C.I) ⟨by simp, by simp⟩ hsrc hc hsz
    have hgr' : w.grownBy w' none := hgr
    obtain ⟨h1, h2, h3⟩ := new_own hw (pid rid i) hn1 (pid_ge _ _) e te.size 0 ([] ++ es') false v' xs' hc.1 hown' hrr' hgr' (fun b hb => by rcases hblk b hb with h | h; exact h; cases h)
    refine ⟨v', w', hrun, _, _, _, hn2, ⟨?_, 0, te.size, v', Cx.set_same _ _ _, Nat.le_refl _, fun _ => rfl⟩, h1, h2, h3⟩
    rcases hown'.2 with ⟨rfl, _⟩ | ⟨_, _, _, rfl, _⟩ <;> rfl
  · rename_i id g
    split at h
    · rename_i e' sz es g' pin hcs
      obtain ⟨rfl, rfl, rfl, h⟩ := h
      obtain ⟨es', ⟨hc, hsz, hn2⟩, hsrc⟩ := src_rep hw hx h
      obtain ⟨l, hloc, hob⟩ := hw.ob _ _ hcs
      cases l with
      | virt _ => exact hob.elim
      | box b => exact hob.elim
      | own g2 sz2 v =>
        obtain ⟨rfl, rfl, hsz0, xs, hrow, hrr, hpin⟩ := hob
        obtain ⟨_, g3, sz3, v3, k1, k2, k3⟩ := hs
        rw [hloc] at k1; cases k1
        have hsv := k3 rfl
        subst hsv
        obtain ⟨v', w', xs', hrun, hown', hrr', hgr, hblk, hkeep⟩ := append_run (ty := ty) hsi he hse hrow hrr hsrc hc hsz
        obtain ⟨h1, h2, h3⟩ := next_own hw id e te.size g (g + 1) es (es ++ es') pin pin sv v' xs xs' hcs hloc hc.1 (by omega) (by omega) hown' hrr' hgr hblk
          (fun b j u hb hu => by
            have hj := (hpin b j u hb hu).2
            have hcell := hw.inI b j u hu
            have h0 : xs[j]? = some u := by
              have hj' : j < xs.length := by rw [hrow.1]; exact hj
              have h5 := hrow.cells hb j xs[j] (by simp [hj'])
              rw [Addr.add_lit, Nat.zero_add, hcell] at h5
              rw [List.getElem?_eq_getElem hj']; exact h5.symm
            exact hkeep b j u hb h0)
          (fun b j u hb hu => by
            rcases hblk b hb with h5 | h5
            · rw [hw.fresh b j h5] at hu; cases hu
            · have := hpin b j u h5 hu
              refine ⟨this.1, ?_⟩
              have h6 : es.length * te.size ≤ (es ++ es').length * te.size := Nat.mul_le_mul_right _ (by simp)
              omega)
        refine ⟨v', w', hrun, _, _, _, hn2, ⟨?_, g + 1, te.size, v', Cx.set_same _ _ _, Nat.le_refl _, fun _ => rfl⟩, h1, h2, h3⟩
        rcases hown'.2 with ⟨rfl, _⟩ | ⟨_, _, _, rfl, _⟩ <;> rfl
    · exact h.elim
  · exact h.elim
end
end Go.Proofs.YtccldchklemogaaW.AM
