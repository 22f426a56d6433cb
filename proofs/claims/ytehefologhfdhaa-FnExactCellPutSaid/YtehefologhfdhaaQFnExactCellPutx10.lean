/- Written by wip/pr2, a program of this session. -/
import Derived.Test.YtehefologhfdhaaQFnExactCellPutx0
import Derived.Test.YtehefologhfdhaaQFnExactCellPutx2
import Derived.Test.YtehefologhfdhaaQFnExactCellPutx9
import Derived.Test.YtehefologhfdhaaWFnExactCellPut
namespace Go.Proofs.Ytehefologhfdhaa.QFnExactCellPut
open Go.RowKit Go.Proofs.YtehefologhfdhaaW.PrintWords Go.Proofs.YtehefologhfdhaaW.PrintLast Go.Proofs.YtehefologhfdhaaW.PrintMore Go.Proofs.YtehefologhfdhaaW.Mac
attribute [local go_sem] max2_int min2_int max_two min_two max_three min_three max_four min_four   -- for this text's walks alone
set_option linter.unusedVariables false
set_option linter.unusedSimpArgs false
set_option maxHeartbeats 8000000
set_option maxRecDepth 100000

/-! ### spec_CellPut: function 19 -/
theorem spec_CellPut.calls (k : Nat) (A0_0 : Option Addr) (c0_0 : Nat) (l0_0 : List (S46)) (A0_1 : Option Addr) (c0_1 : Nat) (l0_1 : List (S58)) (a0_2 : Int) (a0_3 : Int) (a1 : Int) (a2 : ByteArray) (a3_0 : Int) (a3_1 : Int) (a3_2 : ByteArray) (r1 : List (S46)) (r2 : List (S58)) (r3 : Int) (r4 : Int) (r5 : Bool) (w : World) (hr0_0 : Kd.C k46 w A0_0 l0_0.length l0_0) (hc0_0 : l0_0.length ≤ c0_0) (hr0_1 : Kd.C k58 w A0_1 l0_1.length l0_1) (hc0_1 : l0_1.length ≤ c0_1) (h : spec_CellPut.f k l0_0 l0_1 a0_2 a0_3 a1 a2 a3_0 a3_1 a3_2 = some (r1, r2, r3, r4, r5)) :
  Calls Try.prog 19 #[.agg #[.slice A0_0 l0_0.length c0_0, .slice A0_1 l0_1.length c0_1, .int .i64 a0_2, .int .i64 a0_3], .int .i64 a1, .string a2, .agg #[.int .i64 a3_0, .int .i64 a3_1, .string a3_2]] w fun e w' => ∃ v0_ v1_ : Value, e = .returned (.tuple #[.agg #[v0_, v1_, .int .i64 r3, .int .i64 r4], .bool r5]) ∧ Kd.R k46 46 w' w.heap.size (fun _ => True) v0_ r1 ∧ Kd.R k58 58 w' w.heap.size (fun _ => True) v1_ r2 ∧ Below w.heap.size w w' := by
 have hu35 := Try.underlying35
 have hu46 := Try.underlying46
 have hu58 := Try.underlying58
 have HR0_0 := Aside0.mk hr0_0
 have HC0_0 := Aside0.mk hc0_0
 clear hr0_0 hc0_0
 have HR0_1 := Aside0.mk hr0_1
 have HC0_1 := Aside0.mk hc0_1
 clear hr0_1 hc0_1
 have HB := Aside0.mk (Below.refl w.heap.size w)
 rw [spec_CellPut.f] at h
 have H := h
 clear h
 replace H := zO H; obtain ⟨⟨t216, t219, t222, t223⟩, A5, H⟩ := H
 replace H : ((spec_l11At.f k l0_0 l0_1 a0_2 a0_3 a1 a2).bind fun t225 => (if t225 ≥ 0 then (if 0 ≤ t225 then (if t225 < (t219.length : Int) then (some (t216, (t219.set (t225 : Int).toNat (⟨(rd_T58 t219 t225).f0, (rd_T58 t219 t225).f1, (⟨a3_0, a3_1, a3_2⟩ : S46)⟩ : S58)), t222, t223, true)) else (none)) else (none)) else (if (l0_1.length : Int) ≥ 40 then (some (t216, t219, t222, t223, false)) else (spec_CellPut.l0 k a1 a2 0 l0_0 l0_1 a0_2 a0_3 a3_0 a3_1 a3_2 t216 t219 t222 t223)))) = some (r1, r2, r3, r4, r5) := H
 replace H := zO H; obtain ⟨t225, A6, H⟩ := H
 replace H := zI H; obtain ⟨c7, H⟩ | ⟨c7, H⟩ := H
 ·have c7b0 := decide_eq_true c7
  clear c7
  replace H := zI H; obtain ⟨c8, H⟩ | ⟨c8, H⟩ := H
  ·have c8b0 := decide_eq_true c8
   clear c8
   replace H := zI H; obtain ⟨c9, H⟩ | ⟨c9, H⟩ := H
   ·have c9b0 := decide_eq_true c9
    clear c9
    obtain ⟨y226, hy226⟩ : ∃ y_ : List (S58), y_ = (t219.set (t225 : Int).toNat (⟨(rd_T58 t219 t225).f0, (rd_T58 t219 t225).f1, (⟨a3_0, a3_1, a3_2⟩ : S46)⟩ : S58)) := ⟨_, rfl⟩
    replace H : (some (t216, y226, t222, t223, true)) = some (r1, r2, r3, r4, r5) := by first | (rw [hy226]; with_reducible exact H) | (have H2_ := (Option.bind_some _ _).symm.trans H; rw [hy226]; with_reducible exact H2_) | (have H2_ := (Option.bind_some _ _).symm.trans H; with_reducible exact H2_) | with_reducible exact H | (rw [hy226]; exact H) | exact H
    have Ny226 := Aside0.mk hy226
    clear hy226
    simp only [Option.some.injEq, Prod.mk.injEq] at H
    obtain ⟨rfl, rfl, rfl, rfl, rfl⟩ := H
    go_enter Try.func19, Try.ntmps19
    go_wp2_with (first | ((with_reducible refine gate_dst (N := 4) rfl ?_); refine zX (N := 4) (cs := #[.slice A0_0 l0_0.length c0_0, .slice A0_1 l0_1.length c0_1, .int .i64 a0_2, .int .i64 a0_3]) (t := 35) ?_; intro gb213 hg w11 hbox hb; have n_ := z4 (zs hb) (hbox) (zl hg) (zl hg); clear HB; obtain ⟨HB, BK213, GW213, GE213⟩ := n_; clear hb hbox hg) | ((with_reducible refine gate_dst (N := 7) rfl ?_); refine zX (N := 7) (cs := #[.int .i64 a3_0, .int .i64 a3_1, .string a3_2]) (t := 46) ?_; intro gb214 hg w12 hbox hb; have n_ := z7 (zb BK213 hb) (zs hb) (hbox) (zl hg) (zl hg) (zn BK213 hg) (zm BK213 hg); clear BK213 HB; obtain ⟨BK213, HB, BK214, GW214, GE214, NB213_214, NB214_213⟩ := n_; clear hb hbox hg) | ((with_reducible refine gate_dst (N := 8) rfl ?_); refine zX (N := 8) (cs := #[.slice none 0 0, .slice none 0 0, .int .i64 0, .int .i64 0]) (t := 35) ?_; intro gb215 hg w13 hbox hb; have n_ := z10 (zb BK213 hb) (zb BK214 hb) (zs hb) (hbox) (zl hg) (zl hg) (zn BK213 hg) (zm BK213 hg) (zn BK214 hg) (zm BK214 hg); clear BK213 BK214 HB; obtain ⟨BK213, BK214, HB, BK215, GW215, GE215, NB213_215, NB215_213, NB214_215, NB215_214⟩ := n_; clear hb hbox hg; have hnb14 := NB213_214.out; have hnc14 := NB214_213.out; have hnb15 := NB213_215.out; have hnc15 := NB215_213.out; obtain ⟨hcz16_0, hcz16_1, hcz16_2, hcz16_3, hfz16_0, hfz16_1, hfz16_2, hfz16_3⟩ := zC4 BK213) | ((with_reducible refine gate_callee (f := 26) rfl ?_); refine zG (some 14) Try.func26 #[.agg #[.slice A0_0 l0_0.length c0_0, .slice A0_1 l0_1.length c0_1, .int .i64 a0_2, .int .i64 a0_3]] ?_; (with_reducible refine (spec_l11Copy.calls _ _ l0_0 _ _ l0_1 a0_2 a0_3 t216 t219 t222 t223 _ (zR HR0_0) HC0_0.out (zR HR0_1) HC0_1.out A5.out).mono ?_); rintro e w17 ⟨v217, v220, rfl, ho0, ho1, hb⟩; refine ⟨_, rfl, ?_⟩; have n_ := z6 (Kd.R_lower (Kd.R_newB ho0 (g := gb214) (o := .cells #[.int .i64 a3_0, .int .i64 a3_1, .string a3_2] 46 (0, 0)) (zP BK214)) (below_size zB)) (Kd.R_lower ho1 (below_size zB)) (zb BK213 hb) (zb BK214 hb) (zb BK215 hb) (zs hb); clear BK213 BK214 BK215 HB; obtain ⟨HO218, HO221, BK213, BK214, BK215, HB⟩ := n_; (try clear hb); (try clear ho0); (try clear ho1)) | ((with_reducible refine gate_dst (N := 10) rfl ?_); refine zX (N := 10) (cs := #[.slice none 0 0, .slice none 0 0, .int .i64 0, .int .i64 0]) (t := 35) ?_; intro gb224 hg w18 hbox hb; have n_ := z15 (Kd.R_below (by (with_reducible repeat (first | apply Kd.R_alloc | apply Kd.R_drewN | apply Kd.R_drew)); exact HO218.out) hb) (Kd.R_below (by (with_reducible repeat (first | apply Kd.R_alloc | apply Kd.R_drewN | apply Kd.R_drew)); exact HO221.out) hb) (zb BK213 hb) (zb BK214 hb) (zb BK215 hb) (zs hb) (hbox) (zl hg) (zl hg) (zn BK213 hg) (zm BK213 hg) (zn BK214 hg) (zm BK214 hg) (zn BK215 hg) (zm BK215 hg); clear HO218 HO221 BK213 BK214 BK215 HB; obtain ⟨HO218, HO221, BK213, BK214, BK215, HB, BK224, GW224, GE224, NB213_224, NB224_213, NB214_224, NB224_214, NB215_224, NB224_215⟩ := n_; clear hb hbox hg; obtain ⟨Ao19, co19, eo19⟩ := Kd.R_slice HO218.out; subst eo19; have hnb20 := NB224_213.out; have hnc20 := NB213_224.out; have hnb21 := NB224_214.out; have hnc21 := NB214_224.out; have hnb22 := NB224_215.out; have hnc22 := NB215_224.out; obtain ⟨hcz23_0, hcz23_1, hcz23_2, hcz23_3, hfz23_0, hfz23_1, hfz23_2, hfz23_3⟩ := zC4 BK224; obtain ⟨Ao24, co24, eo24⟩ := Kd.R_slice HO221.out; subst eo24; obtain ⟨hcz25_0, hcz25_1, hcz25_2, hcz25_3, hfz25_0, hfz25_1, hfz25_2, hfz25_3⟩ := zC4 BK213) | ((with_reducible refine gate_callee (f := 27) rfl ?_); refine zG (some 18) Try.func27 #[.agg #[.slice A0_0 l0_0.length c0_0, .slice A0_1 l0_1.length c0_1, .int .i64 a0_2, .int .i64 a0_3], .int .i64 a1, .string a2] ?_; (with_reducible refine (spec_l11At.calls k _ _ l0_0 _ _ l0_1 a0_2 a0_3 a1 a2 t225 _ ?side1 ?side2 ?side3 ?side4 A6.out).mono ?_); (case side1 => exact Kd.C_below HR0_0.out zB); (case side2 => exact HC0_0.out); (case side3 => exact Kd.C_below HR0_1.out zB); (case side4 => exact HC0_1.out); rintro e w26 ⟨rfl, hb⟩; refine ⟨_, rfl, ?_⟩; have n_ := z7 (Kd.R_below (by (with_reducible repeat (first | apply Kd.R_alloc | apply Kd.R_drewN | apply Kd.R_drew)); exact (Kd.R_mono (Kd.R_far (p := ⟨gb224, 3, none⟩) (Kd.R_far (p := ⟨gb224, 2, none⟩) (Kd.R_far (p := ⟨gb224, 1, none⟩) (Kd.R_far (p := ⟨gb224, 0, none⟩) (Kd.R_types HO218.out BK224.out (by decide)) (fun _ hk => hk.2) (.slice Ao19 t216.length co19)) (fun _ hk => hk.2) (.slice Ao24 t219.length co24)) (fun _ hk => hk.2) (.int .i64 t222)) (fun _ hk => hk.2) (.int .i64 t223)) (fun _ h_ => h_.1))) hb) (Kd.R_below (by (with_reducible repeat (first | apply Kd.R_alloc | apply Kd.R_drewN | apply Kd.R_drew)); exact (Kd.R_mono (Kd.R_far (p := ⟨gb224, 3, none⟩) (Kd.R_far (p := ⟨gb224, 2, none⟩) (Kd.R_far (p := ⟨gb224, 1, none⟩) (Kd.R_far (p := ⟨gb224, 0, none⟩) (Kd.R_types HO221.out BK224.out (by decide)) (fun _ hk => hk.2) (.slice Ao19 t216.length co19)) (fun _ hk => hk.2) (.slice Ao24 t219.length co24)) (fun _ hk => hk.2) (.int .i64 t222)) (fun _ hk => hk.2) (.int .i64 t223)) (fun _ h_ => h_.1))) hb) (zb BK213 hb) (zb BK214 hb) (zb BK215 hb) (zq #[.slice Ao19 t216.length co19, .slice Ao24 t219.length co24, .int .i64 t222, .int .i64 t223] BK224 hb) (zs hb); clear HO218 HO221 BK213 BK214 BK215 BK224 HB; obtain ⟨HO218, HO221, BK213, BK214, BK215, BK224, HB⟩ := n_; (try clear hb); obtain ⟨hcz27_0, hcz27_1, hcz27_2, hcz27_3, hfz27_0, hfz27_1, hfz27_2, hfz27_3⟩ := zC4 BK224; have hnb28 := NB214_215.out; have hnc28 := NB215_214.out; obtain ⟨hcz29_0, hcz29_1, hcz29_2, hfz29_0, hfz29_1, hfz29_2⟩ := zC3 BK214; have p10 : 0 ≤ (t225 : Int) := zW; have q10 : (t225 : Int) < ((t219.length : Int) : Int) := zW; obtain ⟨go10, co10, eo10, gb10, gl10, cl10, HG10⟩ := Kd.R_form HO221.out (by omega); (first | cases eo10 | (injection eo10 with ea_ en_ ec_; (first | subst ea_ | (injection ea_ with ea_; subst ea_)); subst ec_; clear en_)); have GB10 := Aside0.mk gb10; have GG10 := Aside0.mk HG10; clear gb10 gl10 HG10; obtain ⟨ce10, hcl10, hM10, hcc10, hfr10⟩ := Kd.R_elem HO221.out z58 (t225 : Int) p10 q10; obtain rfl := k58_openM hM10; have hx10_0 : w26.cell? ⟨go10, (t225 : Int).toNat * 5, none⟩ = some (.int .i64 ((rd_T58 t219 t225).f0)) := hcc10 0 _ rfl; have hx10_1 : w26.cell? ⟨go10, (t225 : Int).toNat * 5 + 1, none⟩ = some (.string ((rd_T58 t219 t225).f1)) := hcc10 1 _ rfl; have hx10_2 : w26.cell? ⟨go10, (t225 : Int).toNat * 5 + 2, none⟩ = some (.int .i64 ((rd_T58 t219 t225).f2.f0)) := hcc10 2 _ rfl; have hx10_3 : w26.cell? ⟨go10, (t225 : Int).toNat * 5 + 3, none⟩ = some (.int .i64 ((rd_T58 t219 t225).f2.f1)) := hcc10 3 _ rfl; have hx10_4 : w26.cell? ⟨go10, (t225 : Int).toNat * 5 + 4, none⟩ = some (.string ((rd_T58 t219 t225).f2.f2)) := hcc10 4 _ rfl; have hf10_0 : w26.frozen? ⟨go10, (t225 : Int).toNat * 5, none⟩ = false := hfr10 0; have hf10_1 : w26.frozen? ⟨go10, (t225 : Int).toNat * 5 + 1, none⟩ = false := hfr10 1; have hf10_2 : w26.frozen? ⟨go10, (t225 : Int).toNat * 5 + 2, none⟩ = false := hfr10 2; have hf10_3 : w26.frozen? ⟨go10, (t225 : Int).toNat * 5 + 3, none⟩ = false := hfr10 3; have hf10_4 : w26.frozen? ⟨go10, (t225 : Int).toNat * 5 + 4, none⟩ = false := hfr10 4; clear hcl10 hcc10 hfr10 hM10; replace p10 := eq_true p10; replace q10 := eq_true q10; have HX30 := Aside0.mk (show Kd.R k58 58 w26 w.heap.size (fun _ => True) (.slice (some ⟨go10, 0, none⟩) t219.length co24) t219 from (by (with_reducible repeat (first | apply Kd.R_alloc | apply Kd.R_drewN | apply Kd.R_drew)); exact HO221.out)); obtain ⟨ce30, hcl30, hM30, hcc30, hfr30⟩ := Kd.R_elem HX30.out z58 (t225 : Int) (zW) (by have h_ : (t225 : Int) < ((t219.length : Int) : Int) := zW; first | exact h_ | (have e_ := (Kd.R_reads' HO221.out).1; omega) | simpa using h_); obtain rfl := k58_openM hM30; have HP30 := Kd.R_seg HX30.out (t225 : Int) (zW) (by have h_ : (t225 : Int) < ((t219.length : Int) : Int) := zW; first | exact h_ | (have e_ := (Kd.R_reads' HO221.out).1; omega) | simpa using h_) (seg := [.int .i64 a3_0, .int .i64 a3_1, .string a3_2]) (j := 2) hcl30 hcc30 (show 5 ≤ 5 from by decide) (x' := (⟨(rd_T58 t219 t225).f0, (rd_T58 t219 t225).f1, (⟨a3_0, a3_1, a3_2⟩ : S46)⟩ : S58)) (k58_mkM _ _ _ (⟨(rd_T58 t219 t225).f0, (rd_T58 t219 t225).f1, (⟨a3_0, a3_1, a3_2⟩ : S46)⟩ : S58) ) (fun _ hk => hk); have hx30_2 := hcc30 2 _ rfl; (try simp only [show (k58).sz = 5 from rfl, Nat.mul_one, Nat.add_zero] at hx30_2); have hf30_2 := hfr30 2; (try simp only [show (k58).sz = 5 from rfl, Nat.mul_one, Nat.add_zero] at hf30_2); have hx30_3 := hcc30 3 _ rfl; (try simp only [show (k58).sz = 5 from rfl, Nat.mul_one, Nat.add_zero] at hx30_3); have hf30_3 := hfr30 3; (try simp only [show (k58).sz = 5 from rfl, Nat.mul_one, Nat.add_zero] at hf30_3); have hx30_4 := hcc30 4 _ rfl; (try simp only [show (k58).sz = 5 from rfl, Nat.mul_one, Nat.add_zero] at hx30_4); have hf30_4 := hfr30 4; (try simp only [show (k58).sz = 5 from rfl, Nat.mul_one, Nat.add_zero] at hf30_4); clear hcl30 hcc30 hfr30 hM30) | ((with_reducible refine gate_store (t := 46) (p := 26) rfl ?_); refine store_event (t := 46) (p := 26) (v := ?vo_w31) (w1 := (((w26.setCell ⟨go10, (t225 : Int).toNat * 5 + 2, none⟩ (.int .i64 a3_0)).setCell ⟨go10, (t225 : Int).toNat * 5 + 3, none⟩ (.int .i64 a3_1)).setCell ⟨go10, (t225 : Int).toNat * 5 + 4, none⟩ (.string a3_2))) ?hg ?ho ?hn ?hr ?_; (case ho => rfl); (case hg => rfl); (case hn => rfl); (case hr => first | (go_simp; done) | (go_simp; rfl)); intro w31 hw; have hg : w26.grownBy w31 (some go10) := (by rw [hw]; exact HP30.2); have hp_ : Kd.R k58 58 w31 w.heap.size (fun _ => True) (.slice (some ⟨go10, 0, none⟩) t219.length co24) y226 := (by rw [hw, Ny226.out]; exact HP30.1); clear HP30; have n_ := z7 (blk_grown (g := gb213) (o := .cells #[.slice A0_0 l0_0.length c0_0, .slice A0_1 l0_1.length c0_1, .int .i64 a0_2, .int .i64 a0_3] 35 (0, 0)) (zP BK213) hg (Kd.R_ne HO221.out BK213.out (by decide))) (blk_grown (g := gb214) (o := .cells #[.int .i64 a3_0, .int .i64 a3_1, .string a3_2] 46 (0, 0)) (zP BK214) hg (Kd.R_ne HO221.out BK214.out (by decide))) (blk_grown (g := gb215) (o := .cells #[.slice none 0 0, .slice none 0 0, .int .i64 0, .int .i64 0] 35 (0, 0)) (zP BK215) hg (Kd.R_ne HO221.out BK215.out (by decide))) (Kd.R_over' (v := (.slice (some ⟨go10, 0, none⟩) t219.length co24)) (by (with_reducible repeat (first | apply Kd.R_alloc | apply Kd.R_drewN | apply Kd.R_drew)); exact HO218.out) (Kd.R_typed HO221.out) (by decide) hg) (hp_) (blk_grown (g := gb224) (o := .cells #[.slice Ao19 t216.length co19, .slice (some ⟨go10, 0, none⟩) t219.length co24, .int .i64 t222, .int .i64 t223] 35 (0, 0)) (zP BK224) hg (Kd.R_ne HO221.out BK224.out (by decide))) ((by rw [hw]; exact below_set (below_set (below_set (HB.out) GB10.out) GB10.out) GB10.out : Below w.heap.size w w31)); clear BK213 BK214 BK215 HO218 HO221 BK224 HB; obtain ⟨BK213, BK214, BK215, HO218, HO221, BK224, HB⟩ := n_; clear hg hw hp_; obtain ⟨hcz32_0, hcz32_1, hcz32_2, hcz32_3, hfz32_0, hfz32_1, hfz32_2, hfz32_3⟩ := zC4 BK224; obtain ⟨hcz33_0, hcz33_1, hcz33_2, hcz33_3, hfz33_0, hfz33_1, hfz33_2, hfz33_3⟩ := zC4 BK215))
    refine bodyPost_ret (results_ct rfl _ _ gb215 35 #[.slice Ao19 t216.length co19, .slice (some ⟨go10, 0, none⟩) t219.length co24, .int .i64 t222, .int .i64 t223] (0, 0) _ rfl (zP BK215) Try.underlying35 rfl (by kernel_rfl)) rfl ?_
    exact ⟨_, _, by first | rfl | (simp [errW_none, errW_some] <;> rfl) | (simp [*, errW_none, errW_some] <;> rfl) | (simp [bne, errW_none, errW_some]; done) | (simp [*, bne, errW_none, errW_some]; done), by (with_reducible repeat (first | apply Kd.R_alloc | apply Kd.R_drewN | apply Kd.R_drew)); exact Kd.R_mono (Kd.R_far (p := ⟨gb215, 3, none⟩) (Kd.R_far (p := ⟨gb215, 2, none⟩) (Kd.R_far (p := ⟨gb215, 1, none⟩) (Kd.R_far (p := ⟨gb215, 0, none⟩) (Kd.R_types HO218.out BK215.out (by decide)) (fun _ hk => hk.2) (.slice Ao19 t216.length co19)) (fun _ hk => hk.2) (.slice (some ⟨go10, 0, none⟩) t219.length co24)) (fun _ hk => hk.2) (.int .i64 t222)) (fun _ hk => hk.2) (.int .i64 t223)) (fun _ hk => trivial), by (with_reducible repeat (first | apply Kd.R_alloc | apply Kd.R_drewN | apply Kd.R_drew)); exact Kd.R_mono (Kd.R_far (p := ⟨gb215, 3, none⟩) (Kd.R_far (p := ⟨gb215, 2, none⟩) (Kd.R_far (p := ⟨gb215, 1, none⟩) (Kd.R_far (p := ⟨gb215, 0, none⟩) (Kd.R_types HO221.out BK215.out (by decide)) (fun _ hk => hk.2) (.slice Ao19 t216.length co19)) (fun _ hk => hk.2) (.slice (some ⟨go10, 0, none⟩) t219.length co24)) (fun _ hk => hk.2) (.int .i64 t222)) (fun _ hk => hk.2) (.int .i64 t223)) (fun _ hk => trivial), zB⟩
   ·exact absurd H (by simp)
  ·exact absurd H (by simp)
 ·have c7b0 := decide_eq_false c7
  clear c7
  replace H := zI H; obtain ⟨c34, H⟩ | ⟨c34, H⟩ := H
  ·have c34b0 := decide_eq_true c34
   have c34b1 : decide (40 ≤ l0_1.length) = true := decide_eq_true (by omega)
   clear c34
   simp only [Option.some.injEq, Prod.mk.injEq] at H
   obtain ⟨rfl, rfl, rfl, rfl, rfl⟩ := H
   go_enter Try.func19, Try.ntmps19
   go_wp2_with (first | ((with_reducible refine gate_dst (N := 4) rfl ?_); refine zX (N := 4) (cs := #[.slice A0_0 l0_0.length c0_0, .slice A0_1 l0_1.length c0_1, .int .i64 a0_2, .int .i64 a0_3]) (t := 35) ?_; intro gb213 hg w35 hbox hb; have n_ := z4 (zs hb) (hbox) (zl hg) (zl hg); clear HB; obtain ⟨HB, BK213, GW213, GE213⟩ := n_; clear hb hbox hg) | ((with_reducible refine gate_dst (N := 7) rfl ?_); refine zX (N := 7) (cs := #[.int .i64 a3_0, .int .i64 a3_1, .string a3_2]) (t := 46) ?_; intro gb214 hg w36 hbox hb; have n_ := z7 (zb BK213 hb) (zs hb) (hbox) (zl hg) (zl hg) (zn BK213 hg) (zm BK213 hg); clear BK213 HB; obtain ⟨BK213, HB, BK214, GW214, GE214, NB213_214, NB214_213⟩ := n_; clear hb hbox hg) | ((with_reducible refine gate_dst (N := 8) rfl ?_); refine zX (N := 8) (cs := #[.slice none 0 0, .slice none 0 0, .int .i64 0, .int .i64 0]) (t := 35) ?_; intro gb215 hg w37 hbox hb; have n_ := z10 (zb BK213 hb) (zb BK214 hb) (zs hb) (hbox) (zl hg) (zl hg) (zn BK213 hg) (zm BK213 hg) (zn BK214 hg) (zm BK214 hg); clear BK213 BK214 HB; obtain ⟨BK213, BK214, HB, BK215, GW215, GE215, NB213_215, NB215_213, NB214_215, NB215_214⟩ := n_; clear hb hbox hg; have hnb38 := NB213_214.out; have hnc38 := NB214_213.out; have hnb39 := NB213_215.out; have hnc39 := NB215_213.out; obtain ⟨hcz40_0, hcz40_1, hcz40_2, hcz40_3, hfz40_0, hfz40_1, hfz40_2, hfz40_3⟩ := zC4 BK213) | ((with_reducible refine gate_callee (f := 26) rfl ?_); refine zG (some 14) Try.func26 #[.agg #[.slice A0_0 l0_0.length c0_0, .slice A0_1 l0_1.length c0_1, .int .i64 a0_2, .int .i64 a0_3]] ?_; (with_reducible refine (spec_l11Copy.calls _ _ l0_0 _ _ l0_1 a0_2 a0_3 t216 t219 t222 t223 _ (zR HR0_0) HC0_0.out (zR HR0_1) HC0_1.out A5.out).mono ?_); rintro e w41 ⟨v217, v220, rfl, ho0, ho1, hb⟩; refine ⟨_, rfl, ?_⟩; have n_ := z6 (Kd.R_lower (Kd.R_newB ho0 (g := gb214) (o := .cells #[.int .i64 a3_0, .int .i64 a3_1, .string a3_2] 46 (0, 0)) (zP BK214)) (below_size zB)) (Kd.R_lower ho1 (below_size zB)) (zb BK213 hb) (zb BK214 hb) (zb BK215 hb) (zs hb); clear BK213 BK214 BK215 HB; obtain ⟨HO218, HO221, BK213, BK214, BK215, HB⟩ := n_; (try clear hb); (try clear ho0); (try clear ho1)) | ((with_reducible refine gate_dst (N := 10) rfl ?_); refine zX (N := 10) (cs := #[.slice none 0 0, .slice none 0 0, .int .i64 0, .int .i64 0]) (t := 35) ?_; intro gb224 hg w42 hbox hb; have n_ := z15 (Kd.R_below (by (with_reducible repeat (first | apply Kd.R_alloc | apply Kd.R_drewN | apply Kd.R_drew)); exact HO218.out) hb) (Kd.R_below (by (with_reducible repeat (first | apply Kd.R_alloc | apply Kd.R_drewN | apply Kd.R_drew)); exact HO221.out) hb) (zb BK213 hb) (zb BK214 hb) (zb BK215 hb) (zs hb) (hbox) (zl hg) (zl hg) (zn BK213 hg) (zm BK213 hg) (zn BK214 hg) (zm BK214 hg) (zn BK215 hg) (zm BK215 hg); clear HO218 HO221 BK213 BK214 BK215 HB; obtain ⟨HO218, HO221, BK213, BK214, BK215, HB, BK224, GW224, GE224, NB213_224, NB224_213, NB214_224, NB224_214, NB215_224, NB224_215⟩ := n_; clear hb hbox hg; obtain ⟨Ao43, co43, eo43⟩ := Kd.R_slice HO218.out; subst eo43; have hnb44 := NB224_213.out; have hnc44 := NB213_224.out; have hnb45 := NB224_214.out; have hnc45 := NB214_224.out; have hnb46 := NB224_215.out; have hnc46 := NB215_224.out; obtain ⟨hcz47_0, hcz47_1, hcz47_2, hcz47_3, hfz47_0, hfz47_1, hfz47_2, hfz47_3⟩ := zC4 BK224; obtain ⟨Ao48, co48, eo48⟩ := Kd.R_slice HO221.out; subst eo48; obtain ⟨hcz49_0, hcz49_1, hcz49_2, hcz49_3, hfz49_0, hfz49_1, hfz49_2, hfz49_3⟩ := zC4 BK213) | ((with_reducible refine gate_callee (f := 27) rfl ?_); refine zG (some 18) Try.func27 #[.agg #[.slice A0_0 l0_0.length c0_0, .slice A0_1 l0_1.length c0_1, .int .i64 a0_2, .int .i64 a0_3], .int .i64 a1, .string a2] ?_; (with_reducible refine (spec_l11At.calls k _ _ l0_0 _ _ l0_1 a0_2 a0_3 a1 a2 t225 _ ?side1 ?side2 ?side3 ?side4 A6.out).mono ?_); (case side1 => exact Kd.C_below HR0_0.out zB); (case side2 => exact HC0_0.out); (case side3 => exact Kd.C_below HR0_1.out zB); (case side4 => exact HC0_1.out); rintro e w50 ⟨rfl, hb⟩; refine ⟨_, rfl, ?_⟩; have n_ := z7 (Kd.R_below (by (with_reducible repeat (first | apply Kd.R_alloc | apply Kd.R_drewN | apply Kd.R_drew)); exact (Kd.R_mono (Kd.R_far (p := ⟨gb224, 3, none⟩) (Kd.R_far (p := ⟨gb224, 2, none⟩) (Kd.R_far (p := ⟨gb224, 1, none⟩) (Kd.R_far (p := ⟨gb224, 0, none⟩) (Kd.R_types HO218.out BK224.out (by decide)) (fun _ hk => hk.2) (.slice Ao43 t216.length co43)) (fun _ hk => hk.2) (.slice Ao48 t219.length co48)) (fun _ hk => hk.2) (.int .i64 t222)) (fun _ hk => hk.2) (.int .i64 t223)) (fun _ h_ => h_.1))) hb) (Kd.R_below (by (with_reducible repeat (first | apply Kd.R_alloc | apply Kd.R_drewN | apply Kd.R_drew)); exact (Kd.R_mono (Kd.R_far (p := ⟨gb224, 3, none⟩) (Kd.R_far (p := ⟨gb224, 2, none⟩) (Kd.R_far (p := ⟨gb224, 1, none⟩) (Kd.R_far (p := ⟨gb224, 0, none⟩) (Kd.R_types HO221.out BK224.out (by decide)) (fun _ hk => hk.2) (.slice Ao43 t216.length co43)) (fun _ hk => hk.2) (.slice Ao48 t219.length co48)) (fun _ hk => hk.2) (.int .i64 t222)) (fun _ hk => hk.2) (.int .i64 t223)) (fun _ h_ => h_.1))) hb) (zb BK213 hb) (zb BK214 hb) (zb BK215 hb) (zq #[.slice Ao43 t216.length co43, .slice Ao48 t219.length co48, .int .i64 t222, .int .i64 t223] BK224 hb) (zs hb); clear HO218 HO221 BK213 BK214 BK215 BK224 HB; obtain ⟨HO218, HO221, BK213, BK214, BK215, BK224, HB⟩ := n_; (try clear hb); obtain ⟨hcz51_0, hcz51_1, hcz51_2, hcz51_3, hfz51_0, hfz51_1, hfz51_2, hfz51_3⟩ := zC4 BK213; obtain ⟨hcz52_0, hcz52_1, hcz52_2, hcz52_3, hfz52_0, hfz52_1, hfz52_2, hfz52_3⟩ := zC4 BK224; have hnb53 := NB215_214.out; have hnc53 := NB214_215.out; obtain ⟨hcz54_0, hcz54_1, hcz54_2, hcz54_3, hfz54_0, hfz54_1, hfz54_2, hfz54_3⟩ := zC4 BK215))
   refine bodyPost_ret (results_ct rfl _ _ gb215 35 #[.slice Ao43 t216.length co43, .slice Ao48 t219.length co48, .int .i64 t222, .int .i64 t223] (0, 0) _ rfl (zP BK215) Try.underlying35 rfl (by kernel_rfl)) rfl ?_
   exact ⟨_, _, by first | rfl | (simp [errW_none, errW_some] <;> rfl) | (simp [*, errW_none, errW_some] <;> rfl) | (simp [bne, errW_none, errW_some]; done) | (simp [*, bne, errW_none, errW_some]; done), by (with_reducible repeat (first | apply Kd.R_alloc | apply Kd.R_drewN | apply Kd.R_drew)); exact Kd.R_mono (Kd.R_far (p := ⟨gb215, 3, none⟩) (Kd.R_far (p := ⟨gb215, 2, none⟩) (Kd.R_far (p := ⟨gb215, 1, none⟩) (Kd.R_far (p := ⟨gb215, 0, none⟩) (Kd.R_types HO218.out BK215.out (by decide)) (fun _ hk => hk.2) (.slice Ao43 t216.length co43)) (fun _ hk => hk.2) (.slice Ao48 t219.length co48)) (fun _ hk => hk.2) (.int .i64 t222)) (fun _ hk => hk.2) (.int .i64 t223)) (fun _ hk => trivial), by (with_reducible repeat (first | apply Kd.R_alloc | apply Kd.R_drewN | apply Kd.R_drew)); exact Kd.R_mono (Kd.R_far (p := ⟨gb215, 3, none⟩) (Kd.R_far (p := ⟨gb215, 2, none⟩) (Kd.R_far (p := ⟨gb215, 1, none⟩) (Kd.R_far (p := ⟨gb215, 0, none⟩) (Kd.R_types HO221.out BK215.out (by decide)) (fun _ hk => hk.2) (.slice Ao43 t216.length co43)) (fun _ hk => hk.2) (.slice Ao48 t219.length co48)) (fun _ hk => hk.2) (.int .i64 t222)) (fun _ hk => hk.2) (.int .i64 t223)) (fun _ hk => trivial), zB⟩
  ·have c34b0 := decide_eq_false c34
   have c34b1 : decide (40 ≤ l0_1.length) = false := decide_eq_false (by omega)
   clear c34
   have H' := Aside0.mk H
   clear H
   go_enter Try.func19, Try.ntmps19
   go_wp2_with (first | ((with_reducible refine gate_dst (N := 4) rfl ?_); refine zX (N := 4) (cs := #[.slice A0_0 l0_0.length c0_0, .slice A0_1 l0_1.length c0_1, .int .i64 a0_2, .int .i64 a0_3]) (t := 35) ?_; intro gb213 hg w55 hbox hb; have n_ := z4 (zs hb) (hbox) (zl hg) (zl hg); clear HB; obtain ⟨HB, BK213, GW213, GE213⟩ := n_; clear hb hbox hg) | ((with_reducible refine gate_dst (N := 7) rfl ?_); refine zX (N := 7) (cs := #[.int .i64 a3_0, .int .i64 a3_1, .string a3_2]) (t := 46) ?_; intro gb214 hg w56 hbox hb; have n_ := z7 (zb BK213 hb) (zs hb) (hbox) (zl hg) (zl hg) (zn BK213 hg) (zm BK213 hg); clear BK213 HB; obtain ⟨BK213, HB, BK214, GW214, GE214, NB213_214, NB214_213⟩ := n_; clear hb hbox hg) | ((with_reducible refine gate_dst (N := 8) rfl ?_); refine zX (N := 8) (cs := #[.slice none 0 0, .slice none 0 0, .int .i64 0, .int .i64 0]) (t := 35) ?_; intro gb215 hg w57 hbox hb; have n_ := z10 (zb BK213 hb) (zb BK214 hb) (zs hb) (hbox) (zl hg) (zl hg) (zn BK213 hg) (zm BK213 hg) (zn BK214 hg) (zm BK214 hg); clear BK213 BK214 HB; obtain ⟨BK213, BK214, HB, BK215, GW215, GE215, NB213_215, NB215_213, NB214_215, NB215_214⟩ := n_; clear hb hbox hg; have hnb58 := NB213_214.out; have hnc58 := NB214_213.out; have hnb59 := NB213_215.out; have hnc59 := NB215_213.out; obtain ⟨hcz60_0, hcz60_1, hcz60_2, hcz60_3, hfz60_0, hfz60_1, hfz60_2, hfz60_3⟩ := zC4 BK213) | ((with_reducible refine gate_callee (f := 26) rfl ?_); refine zG (some 14) Try.func26 #[.agg #[.slice A0_0 l0_0.length c0_0, .slice A0_1 l0_1.length c0_1, .int .i64 a0_2, .int .i64 a0_3]] ?_; (with_reducible refine (spec_l11Copy.calls _ _ l0_0 _ _ l0_1 a0_2 a0_3 t216 t219 t222 t223 _ (zR HR0_0) HC0_0.out (zR HR0_1) HC0_1.out A5.out).mono ?_); rintro e w61 ⟨v217, v220, rfl, ho0, ho1, hb⟩; refine ⟨_, rfl, ?_⟩; have n_ := z6 (Kd.R_lower (Kd.R_newB ho0 (g := gb214) (o := .cells #[.int .i64 a3_0, .int .i64 a3_1, .string a3_2] 46 (0, 0)) (zP BK214)) (below_size zB)) (Kd.R_lower ho1 (below_size zB)) (zb BK213 hb) (zb BK214 hb) (zb BK215 hb) (zs hb); clear BK213 BK214 BK215 HB; obtain ⟨HO218, HO221, BK213, BK214, BK215, HB⟩ := n_; (try clear hb); (try clear ho0); (try clear ho1)) | ((with_reducible refine gate_dst (N := 10) rfl ?_); refine zX (N := 10) (cs := #[.slice none 0 0, .slice none 0 0, .int .i64 0, .int .i64 0]) (t := 35) ?_; intro gb224 hg w62 hbox hb; have n_ := z15 (Kd.R_below (by (with_reducible repeat (first | apply Kd.R_alloc | apply Kd.R_drewN | apply Kd.R_drew)); exact HO218.out) hb) (Kd.R_below (by (with_reducible repeat (first | apply Kd.R_alloc | apply Kd.R_drewN | apply Kd.R_drew)); exact HO221.out) hb) (zb BK213 hb) (zb BK214 hb) (zb BK215 hb) (zs hb) (hbox) (zl hg) (zl hg) (zn BK213 hg) (zm BK213 hg) (zn BK214 hg) (zm BK214 hg) (zn BK215 hg) (zm BK215 hg); clear HO218 HO221 BK213 BK214 BK215 HB; obtain ⟨HO218, HO221, BK213, BK214, BK215, HB, BK224, GW224, GE224, NB213_224, NB224_213, NB214_224, NB224_214, NB215_224, NB224_215⟩ := n_; clear hb hbox hg; obtain ⟨Ao63, co63, eo63⟩ := Kd.R_slice HO218.out; subst eo63; have hnb64 := NB224_213.out; have hnc64 := NB213_224.out; have hnb65 := NB224_214.out; have hnc65 := NB214_224.out; have hnb66 := NB224_215.out; have hnc66 := NB215_224.out; obtain ⟨hcz67_0, hcz67_1, hcz67_2, hcz67_3, hfz67_0, hfz67_1, hfz67_2, hfz67_3⟩ := zC4 BK224; obtain ⟨Ao68, co68, eo68⟩ := Kd.R_slice HO221.out; subst eo68; obtain ⟨hcz69_0, hcz69_1, hcz69_2, hcz69_3, hfz69_0, hfz69_1, hfz69_2, hfz69_3⟩ := zC4 BK213) | ((with_reducible refine gate_callee (f := 27) rfl ?_); refine zG (some 18) Try.func27 #[.agg #[.slice A0_0 l0_0.length c0_0, .slice A0_1 l0_1.length c0_1, .int .i64 a0_2, .int .i64 a0_3], .int .i64 a1, .string a2] ?_; (with_reducible refine (spec_l11At.calls k _ _ l0_0 _ _ l0_1 a0_2 a0_3 a1 a2 t225 _ ?side1 ?side2 ?side3 ?side4 A6.out).mono ?_); (case side1 => exact Kd.C_below HR0_0.out zB); (case side2 => exact HC0_0.out); (case side3 => exact Kd.C_below HR0_1.out zB); (case side4 => exact HC0_1.out); rintro e w70 ⟨rfl, hb⟩; refine ⟨_, rfl, ?_⟩; have n_ := z7 (Kd.R_below (by (with_reducible repeat (first | apply Kd.R_alloc | apply Kd.R_drewN | apply Kd.R_drew)); exact (Kd.R_mono (Kd.R_far (p := ⟨gb224, 3, none⟩) (Kd.R_far (p := ⟨gb224, 2, none⟩) (Kd.R_far (p := ⟨gb224, 1, none⟩) (Kd.R_far (p := ⟨gb224, 0, none⟩) (Kd.R_types HO218.out BK224.out (by decide)) (fun _ hk => hk.2) (.slice Ao63 t216.length co63)) (fun _ hk => hk.2) (.slice Ao68 t219.length co68)) (fun _ hk => hk.2) (.int .i64 t222)) (fun _ hk => hk.2) (.int .i64 t223)) (fun _ h_ => h_.1))) hb) (Kd.R_below (by (with_reducible repeat (first | apply Kd.R_alloc | apply Kd.R_drewN | apply Kd.R_drew)); exact (Kd.R_mono (Kd.R_far (p := ⟨gb224, 3, none⟩) (Kd.R_far (p := ⟨gb224, 2, none⟩) (Kd.R_far (p := ⟨gb224, 1, none⟩) (Kd.R_far (p := ⟨gb224, 0, none⟩) (Kd.R_types HO221.out BK224.out (by decide)) (fun _ hk => hk.2) (.slice Ao63 t216.length co63)) (fun _ hk => hk.2) (.slice Ao68 t219.length co68)) (fun _ hk => hk.2) (.int .i64 t222)) (fun _ hk => hk.2) (.int .i64 t223)) (fun _ h_ => h_.1))) hb) (zb BK213 hb) (zb BK214 hb) (zb BK215 hb) (zq #[.slice Ao63 t216.length co63, .slice Ao68 t219.length co68, .int .i64 t222, .int .i64 t223] BK224 hb) (zs hb); clear HO218 HO221 BK213 BK214 BK215 BK224 HB; obtain ⟨HO218, HO221, BK213, BK214, BK215, BK224, HB⟩ := n_; (try clear hb); obtain ⟨hcz71_0, hcz71_1, hcz71_2, hcz71_3, hfz71_0, hfz71_1, hfz71_2, hfz71_3⟩ := zC4 BK213))
   go_loopg [11] k (fun kq v11 w' => ∃ (x11_1 : Int), v11 = .int .i64 x11_1 ∧ Aside0 (spec_CellPut.l0 kq a1 a2 x11_1 l0_0 l0_1 a0_2 a0_3 a3_0 a3_1 a3_2 t216 t219 t222 t223 = some (r1, r2, r3, r4, r5)) ∧ Aside0 (kq ≤ k) ∧ Aside0 (Kd.R k46 46 w' w.heap.size (fun k_ => k_ ≠ gb214) (.slice Ao63 t216.length co63) t216) ∧ Aside0 (Kd.R k58 58 w' w.heap.size (fun _ => True) (.slice Ao68 t219.length co68) t219) ∧ Aside0 (w'.heap[gb213]? = some (.cells #[(.slice A0_0 l0_0.length c0_0), (.slice A0_1 l0_1.length c0_1), .int .i64 a0_2, .int .i64 a0_3] 35 (0, 0))) ∧ Aside0 (w'.heap[gb214]? = some (.cells #[.int .i64 a3_0, .int .i64 a3_1, .string a3_2] 46 (0, 0))) ∧ Aside0 (w'.heap[gb215]? = some (.cells #[(.slice none 0 0), (.slice none 0 0), .int .i64 0, .int .i64 0] 35 (0, 0))) ∧ Aside0 (w'.heap[gb224]? = some (.cells #[(.slice Ao63 t216.length co63), (.slice Ao68 t219.length co68), .int .i64 t222, .int .i64 t223] 35 (0, 0))) ∧ Aside0 (Below w.heap.size w w'))
   case atStart => exact ⟨(0), zS, H', ⟨Nat.le_refl _⟩, ⟨by (with_reducible repeat (first | apply Kd.R_alloc | apply Kd.R_drewN | apply Kd.R_drew)); exact Kd.R_mono HO218.out (fun _ hk => hk.2)⟩, ⟨by (with_reducible repeat (first | apply Kd.R_alloc | apply Kd.R_drewN | apply Kd.R_drew)); exact HO221.out⟩, ⟨zP BK213⟩, ⟨zP BK214⟩, ⟨zP BK215⟩, ⟨zP BK224⟩, ⟨zB⟩⟩
   case round =>
    clear H'
    (try clear c7); (try clear c7b0); (try clear hf10); (try clear hf30); (try clear c34); (try clear c34b0); (try clear c34b1); (try clear hcz60_0); (try clear hcz60_1); (try clear hcz60_2); (try clear hcz60_3); (try clear hcz67_0); (try clear hcz67_1); (try clear hcz67_2); (try clear hcz67_3); (try clear hcz69_0); (try clear hcz69_1); (try clear hcz69_2); (try clear hcz69_3); (try clear hcz71_0); (try clear hcz71_1); (try clear hcz71_2); (try clear hcz71_3); (try clear hfz60_0); (try clear hfz60_1); (try clear hfz60_2); (try clear hfz60_3); (try clear hfz67_0); (try clear hfz67_1); (try clear hfz67_2); (try clear hfz67_3); (try clear hfz69_0); (try clear hfz69_1); (try clear hfz69_2); (try clear hfz69_3); (try clear hfz71_0); (try clear hfz71_1); (try clear hfz71_2); (try clear hfz71_3)
    obtain ⟨x11_1, rfl, HA, HK1, HO_225000, HO_225001, BK213, BK214, BK215, BK224, HB⟩ := hrel
    cases gk with
    | zero => exact absurd HA.out (by simp [spec_CellPut.l0])
    | succ k1 =>
     have H := HA.out
     clear HA
     simp only [spec_CellPut.l0] at H
     replace H := zI H; obtain ⟨c72, H⟩ | ⟨c72, H⟩ := H
     ·have c72b0 := decide_eq_true c72
      clear c72
      replace H := zI H; obtain ⟨c73, H⟩ | ⟨c73, H⟩ := H
      ·have c73b0 := decide_eq_true c73
       clear c73
       replace H := zO H; obtain ⟨t228, A74, H⟩ := H
       by_cases c75 : t228 = true
       ·subst c75; replace H := zT H
        have H' := Aside0.mk H
        clear H
        have hnb76 := NB213_214.out
        have hnc76 := NB214_213.out
        have hnb77 := NB213_215.out
        have hnc77 := NB215_213.out
        have hnb78 := NB213_224.out
        have hnc78 := NB224_213.out
        obtain ⟨hcz79_0, hcz79_1, hcz79_2, hcz79_3, hfz79_0, hfz79_1, hfz79_2, hfz79_3⟩ := zC4 BK213
        have p227 : 0 ≤ (x11_1 : Int) := zW
        have q227 : x11_1 < (l0_1.length : Int) := zW
        obtain ⟨ad227, e227, hx227_0, hx227_1, hx227_2, hx227_3, hx227_4⟩ := at_T58 HR0_1.out x11_1 p227 q227
        cases e227
        replace hx227_0 := zc HB hx227_0
        replace hx227_1 := zc HB hx227_1
        replace hx227_2 := zc HB hx227_2
        replace hx227_3 := zc HB hx227_3
        replace hx227_4 := zc HB hx227_4
        replace p227 := eq_true p227
        replace q227 := eq_true q227
        go_wp2_with (first | (go_at_call 39; (with_reducible refine (spec_l11Less.calls ((rd_T58 l0_1 x11_1).f0) ((rd_T58 l0_1 x11_1).f1) ((rd_T58 l0_1 x11_1).f2.f0) ((rd_T58 l0_1 x11_1).f2.f1) ((rd_T58 l0_1 x11_1).f2.f2) a1 a2 true _ A74.out).mono ?_); rintro e w80 ⟨rfl, hb⟩; have n_ := z7 (Kd.R_below (by (with_reducible repeat (first | apply Kd.R_alloc | apply Kd.R_drewN | apply Kd.R_drew)); exact HO_225000.out) hb) (Kd.R_below (by (with_reducible repeat (first | apply Kd.R_alloc | apply Kd.R_drewN | apply Kd.R_drew)); exact HO_225001.out) hb) (zb BK213 hb) (zb BK214 hb) (zb BK215 hb) (zb BK224 hb) (zs hb); clear HO_225000 HO_225001 BK213 BK214 BK215 BK224 HB; obtain ⟨HO_225000, HO_225001, BK213, BK214, BK215, BK224, HB⟩ := n_; (try clear hb)))
        go_roundg k1
        case measure => have := HK1.out; omega
        case rel => exact ⟨(wrap64 (x11_1 + 1)), zS, H', ⟨by have := HK1.out; omega⟩, ⟨by (with_reducible repeat (first | apply Kd.R_alloc | apply Kd.R_drewN | apply Kd.R_drew)); exact HO_225000.out⟩, ⟨by (with_reducible repeat (first | apply Kd.R_alloc | apply Kd.R_drewN | apply Kd.R_drew)); exact HO_225001.out⟩, ⟨zP BK213⟩, ⟨zP BK214⟩, ⟨zP BK215⟩, ⟨zP BK224⟩, ⟨zB⟩⟩
       ·replace c75 := Bool.eq_false_iff.mpr c75; subst c75; replace H := zN H
        obtain ⟨y229, hy229⟩ : ∃ y_ : List (S58), y_ = (([] : List (S58))) := ⟨_, rfl⟩
        replace H : (if x11_1 ≤ (l0_1.length : Int) then ((some (l0_1.take (x11_1 : Int).toNat : List (S58))).bind fun y232 => (if y229.length + y232.length < 2513169434916 then ((some (y229 ++ y232 : List (S58))).bind fun y236 => (if y236.length < 2513169434916 then ((some (y236 ++ [(⟨a1, a2, (⟨a3_0, a3_1, a3_2⟩ : S46)⟩ : S58)] : List (S58))).bind fun y239 => ((some (l0_1.drop (x11_1 : Int).toNat : List (S58))).bind fun y242 => (if y239.length + y242.length < 2513169434916 then (some (t216, (y239 ++ y242), t222, t223, true)) else (none)))) else (none))) else (none))) else (none)) = some (r1, r2, r3, r4, r5) := by first | (rw [hy229]; with_reducible exact H) | (have H2_ := (Option.bind_some _ _).symm.trans H; rw [hy229]; with_reducible exact H2_) | (have H2_ := (Option.bind_some _ _).symm.trans H; with_reducible exact H2_) | with_reducible exact H | (rw [hy229]; exact H) | exact H
        have Ny229 := Aside0.mk hy229
        clear hy229
        have c81b0 := eq_true (zW : 0 ≤ x11_1)
        replace H := zI H; obtain ⟨c82, H⟩ | ⟨c82, H⟩ := H
        ·have c82b0 := eq_true c82
         have c82b1 := decide_eq_true c82
         clear c82
         obtain ⟨y232, hy232⟩ : ∃ y_ : List (S58), y_ = (l0_1.take (x11_1 : Int).toNat) := ⟨_, rfl⟩
         replace H : (if y229.length + y232.length < 2513169434916 then ((some (y229 ++ y232 : List (S58))).bind fun y236 => (if y236.length < 2513169434916 then ((some (y236 ++ [(⟨a1, a2, (⟨a3_0, a3_1, a3_2⟩ : S46)⟩ : S58)] : List (S58))).bind fun y239 => ((some (l0_1.drop (x11_1 : Int).toNat : List (S58))).bind fun y242 => (if y239.length + y242.length < 2513169434916 then (some (t216, (y239 ++ y242), t222, t223, true)) else (none)))) else (none))) else (none)) = some (r1, r2, r3, r4, r5) := by first | (rw [hy232]; with_reducible exact H) | (have H2_ := (Option.bind_some _ _).symm.trans H; rw [hy232]; with_reducible exact H2_) | (have H2_ := (Option.bind_some _ _).symm.trans H; with_reducible exact H2_) | with_reducible exact H | (rw [hy232]; exact H) | exact H
         have Ny232 := Aside0.mk hy232
         clear hy232
         replace H := zI H; obtain ⟨c83, H⟩ | ⟨c83, H⟩ := H
         ·have LMc83 := Aside0.mk c83
          clear c83
          obtain ⟨y236, hy236⟩ : ∃ y_ : List (S58), y_ = (y229 ++ y232) := ⟨_, rfl⟩
          replace H : (if y236.length < 2513169434916 then ((some (y236 ++ [(⟨a1, a2, (⟨a3_0, a3_1, a3_2⟩ : S46)⟩ : S58)] : List (S58))).bind fun y239 => ((some (l0_1.drop (x11_1 : Int).toNat : List (S58))).bind fun y242 => (if y239.length + y242.length < 2513169434916 then (some (t216, (y239 ++ y242), t222, t223, true)) else (none)))) else (none)) = some (r1, r2, r3, r4, r5) := by first | (rw [hy236]; with_reducible exact H) | (have H2_ := (Option.bind_some _ _).symm.trans H; rw [hy236]; with_reducible exact H2_) | (have H2_ := (Option.bind_some _ _).symm.trans H; with_reducible exact H2_) | with_reducible exact H | (rw [hy236]; exact H) | exact H
          have Ny236 := Aside0.mk hy236
          clear hy236
          replace H := zI H; obtain ⟨c84, H⟩ | ⟨c84, H⟩ := H
          ·have LMc84 := Aside0.mk c84
           clear c84
           obtain ⟨y239, hy239⟩ : ∃ y_ : List (S58), y_ = (y236 ++ [(⟨a1, a2, (⟨a3_0, a3_1, a3_2⟩ : S46)⟩ : S58)]) := ⟨_, rfl⟩
           replace H : ((some (l0_1.drop (x11_1 : Int).toNat : List (S58))).bind fun y242 => (if y239.length + y242.length < 2513169434916 then (some (t216, (y239 ++ y242), t222, t223, true)) else (none))) = some (r1, r2, r3, r4, r5) := by first | (rw [hy239]; with_reducible exact H) | (have H2_ := (Option.bind_some _ _).symm.trans H; rw [hy239]; with_reducible exact H2_) | (have H2_ := (Option.bind_some _ _).symm.trans H; with_reducible exact H2_) | with_reducible exact H | (rw [hy239]; exact H) | exact H
           have Ny239 := Aside0.mk hy239
           clear hy239
           have c85b0 := eq_true (zW : 0 ≤ x11_1)
           have c86b0 := eq_true (zW : x11_1 ≤ (l0_1.length : Int))
           obtain ⟨y242, hy242⟩ : ∃ y_ : List (S58), y_ = (l0_1.drop (x11_1 : Int).toNat) := ⟨_, rfl⟩
           replace H : (if y239.length + y242.length < 2513169434916 then (some (t216, (y239 ++ y242), t222, t223, true)) else (none)) = some (r1, r2, r3, r4, r5) := by first | (rw [hy242]; with_reducible exact H) | (have H2_ := (Option.bind_some _ _).symm.trans H; rw [hy242]; with_reducible exact H2_) | (have H2_ := (Option.bind_some _ _).symm.trans H; with_reducible exact H2_) | with_reducible exact H | (rw [hy242]; exact H) | exact H
           have Ny242 := Aside0.mk hy242
           clear hy242
           replace H := zI H; obtain ⟨c87, H⟩ | ⟨c87, H⟩ := H
           ·have LMc87 := Aside0.mk c87
            clear c87
            obtain ⟨y246, hy246⟩ : ∃ y_ : List (S58), y_ = (y239 ++ y242) := ⟨_, rfl⟩
            replace H : (some (t216, y246, t222, t223, true)) = some (r1, r2, r3, r4, r5) := by first | (rw [hy246]; with_reducible exact H) | (have H2_ := (Option.bind_some _ _).symm.trans H; rw [hy246]; with_reducible exact H2_) | (have H2_ := (Option.bind_some _ _).symm.trans H; with_reducible exact H2_) | with_reducible exact H | (rw [hy246]; exact H) | exact H
            have Ny246 := Aside0.mk hy246
            clear hy246
            simp only [Option.some.injEq, Prod.mk.injEq] at H
            obtain ⟨rfl, rfl, rfl, rfl, rfl⟩ := H
            have hnb88 := NB213_214.out
            have hnc88 := NB214_213.out
            have hnb89 := NB213_215.out
            have hnc89 := NB215_213.out
            have hnb90 := NB213_224.out
            have hnc90 := NB224_213.out
            obtain ⟨hcz91_0, hcz91_1, hcz91_2, hcz91_3, hfz91_0, hfz91_1, hfz91_2, hfz91_3⟩ := zC4 BK213
            have p227 : 0 ≤ (x11_1 : Int) := zW
            have q227 : x11_1 < (l0_1.length : Int) := zW
            obtain ⟨ad227, e227, hx227_0, hx227_1, hx227_2, hx227_3, hx227_4⟩ := at_T58 HR0_1.out x11_1 p227 q227
            cases e227
            replace hx227_0 := zc HB hx227_0
            replace hx227_1 := zc HB hx227_1
            replace hx227_2 := zc HB hx227_2
            replace hx227_3 := zc HB hx227_3
            replace hx227_4 := zc HB hx227_4
            replace p227 := eq_true p227
            replace q227 := eq_true q227
            go_wp2_with (first | (go_at_call 39; (with_reducible refine (spec_l11Less.calls ((rd_T58 l0_1 x11_1).f0) ((rd_T58 l0_1 x11_1).f1) ((rd_T58 l0_1 x11_1).f2.f0) ((rd_T58 l0_1 x11_1).f2.f1) ((rd_T58 l0_1 x11_1).f2.f2) a1 a2 false _ A74.out).mono ?_); rintro e w92 ⟨rfl, hb⟩; have n_ := z7 (Kd.R_below (by (with_reducible repeat (first | apply Kd.R_alloc | apply Kd.R_drewN | apply Kd.R_drew)); exact HO_225000.out) hb) (Kd.R_below (by (with_reducible repeat (first | apply Kd.R_alloc | apply Kd.R_drewN | apply Kd.R_drew)); exact HO_225001.out) hb) (zb BK213 hb) (zb BK214 hb) (zb BK215 hb) (zb BK224 hb) (zs hb); clear HO_225000 HO_225001 BK213 BK214 BK215 BK224 HB; obtain ⟨HO_225000, HO_225001, BK213, BK214, BK215, BK224, HB⟩ := n_; (try clear hb)) | ((with_reducible refine gate_dst (N := 50) rfl ?_); refine Kd.R_lit k58 _ 58 ?hg (N := 50) ?hd (xs := ([] : List (S58))) (inner := []) (ok := fun _ => True) (okp := fun _ => True) ?hr ?hp (fun _ hk => hk) trivial (Below.refl _ _) (Nat.le_refl _) (by simp) ?_; (case hd => rfl); (case hg => rfl); (case hr => first | (go_simp; done) | (go_simp; rfl)); (case hp => exact (Reps.none _ _)); intro v230 w93 ho94 hb hg_ hnew_; clear hg_ hnew_; (first | rw [← Ny229.out] at ho94 | (simp only [Int.reduceToNat] at ho94; rw [← Ny229.out] at ho94)); have n_ := z8 (Kd.R_below (by (with_reducible repeat (first | apply Kd.R_alloc | apply Kd.R_drewN | apply Kd.R_drew)); exact HO_225000.out) hb) (Kd.R_elder' (by (with_reducible repeat (first | apply Kd.R_alloc | apply Kd.R_drewN | apply Kd.R_drew)); exact HO_225001.out) (Kd.R_base ho94) hb) (Kd.R_lower (Kd.R_new' ho94 (Kd.R_lt (by (with_reducible repeat (first | apply Kd.R_alloc | apply Kd.R_drewN | apply Kd.R_drew)); exact HO_225001.out))) (below_size zB)) (zb BK213 hb) (zb BK214 hb) (zb BK215 hb) (zb BK224 hb) (zs hb); clear HO_225000 HO_225001 BK213 BK214 BK215 BK224 HB; obtain ⟨HO_225000, HO_225001, HO231, BK213, BK214, BK215, BK224, HB⟩ := n_; clear hb ho94; obtain ⟨hcz95_0, hcz95_1, hcz95_2, hcz95_3, hfz95_0, hfz95_1, hfz95_2, hfz95_3⟩ := zC4 BK213; have q96 : (x11_1 : Int) ≤ ((l0_1.length : Int) : Int) := zW; obtain ⟨i096, hi096, _, hsz96, _⟩ := info_parts info58; have hroom96 : l0_1.length ≤ c0_1 := HC0_1.out; have hC96 : Kd.C k58 _ (some ad227) l0_1.length l0_1 := HR0_1.out; have hcut96 := cut_to (P := Try.prog) 33 58 .i64 Try.underlying33 hi096 (some ad227) l0_1.length c0_1 x11_1 (zW) q96 hroom96; have hr96 := Kd.C_take (m := (x11_1 : Int).toNat) hC96 (by omega); have hy96 : y232.length = (x11_1 : Int).toNat := (by rw [Ny232.out, List.length_take]; omega); rw [← Ny232.out] at hr96; rw [← hy96] at hcut96; have HR235 := Aside0.mk hr96; have HC235 := Aside0.mk (show y232.length ≤ c0_1 from by omega); clear hr96 hC96 hroom96 hi096 hsz96; have KY96 := Aside0.mk hy96; clear hy96; replace q96 := eq_true q96) | ((with_reducible refine gate_builtin (b := .append) (xs := #[.tmp 50, .tmp 54]) rfl ?_); at_builtin; refine Kd.R_append_rows k58 (w0 := w) w.heap.size rfl (.tmp 50) (.tmp 54) 33 58 (.agg #[(.int .i64 0), (.string ⟨#[]⟩), (.int .i64 0), (.int .i64 0), (.string ⟨#[]⟩)]) 56 rfl Try.underlying33 info58 rfl (by decide) (by omega) v230 y229 y232 _ _ _ (fun k_ => some k_ ≠ (.slice Ao68 t219.length co68 : Value).ownBlock) (fun _ => False) rfl rfl ?aO ?aR (fun _ _ h => h) (fun _ h => h.elim) ?aF ?aB ?aS ?aL ?_; (case aR => repeat (first | exact (Kd.C_below HR235.out HB.out) | (with_reducible refine Kd.C_alloc ?_ _) | (with_reducible refine Kd.C_drewN ?_ _) | (with_reducible refine Kd.C_drew ?_))); (case aB => exact zB); (case aF => exact (fun k_ hk => Kd.fresh' (Kd.R_lt (by (with_reducible repeat (first | apply Kd.R_alloc | apply Kd.R_drewN | apply Kd.R_drew)); exact HO_225001.out)) k_ hk)); (case aO => exact (by (with_reducible repeat (first | apply Kd.R_alloc | apply Kd.R_drewN | apply Kd.R_drew)); exact Kd.R_mono HO231.out (fun _ hk => hk.2))); (case aS => exact (below_size zB)); (case aL => have := LMc83.out; omega); intro v237 w97 ho hb hg hat; rw [← Ny236.out] at ho; have n_ := z8 (Kd.R_over' (by (with_reducible repeat (first | apply Kd.R_alloc | apply Kd.R_drewN | apply Kd.R_drew)); exact HO_225000.out) (Kd.R_typed (by (with_reducible repeat (first | apply Kd.R_alloc | apply Kd.R_drewN | apply Kd.R_drew)); exact HO231.out)) (by decide) hg) (Kd.R_after (ok := (fun _ => True)) (by (with_reducible repeat (first | apply Kd.R_alloc | apply Kd.R_drewN | apply Kd.R_drew)); exact HO_225001.out) hg hat) (blk_grown (g := gb213) (o := .cells #[.slice A0_0 l0_0.length c0_0, .slice (some ad227) l0_1.length c0_1, .int .i64 a0_2, .int .i64 a0_3] 35 (0, 0)) (zP BK213) hg (Kd.R_ne HO231.out BK213.out (by decide))) (blk_grown (g := gb214) (o := .cells #[.int .i64 a3_0, .int .i64 a3_1, .string a3_2] 46 (0, 0)) (zP BK214) hg (Kd.R_ne HO231.out BK214.out (by decide))) (blk_grown (g := gb215) (o := .cells #[.slice none 0 0, .slice none 0 0, .int .i64 0, .int .i64 0] 35 (0, 0)) (zP BK215) hg (Kd.R_ne HO231.out BK215.out (by decide))) (blk_grown (g := gb224) (o := .cells #[.slice Ao63 t216.length co63, .slice Ao68 t219.length co68, .int .i64 t222, .int .i64 t223] 35 (0, 0)) (zP BK224) hg (Kd.R_ne HO231.out BK224.out (by decide))) (hb) (ho); clear HO_225000 HO_225001 BK213 BK214 BK215 BK224 HB HO231; obtain ⟨HO_225000, HO_225001, BK213, BK214, BK215, BK224, HB, HO238⟩ := n_; clear ho hb hg hat; have hnb98 := NB214_215.out; have hnc98 := NB215_214.out; have hnb99 := NB214_224.out; have hnc99 := NB224_214.out; obtain ⟨hcz100_0, hcz100_1, hcz100_2, hfz100_0, hfz100_1, hfz100_2⟩ := zC3 BK214) | ((with_reducible refine gate_builtin (b := .append) (xs := #[.tmp 56, .tmp 61]) rfl ?_); at_builtin; refine Kd.R_append k58 (w0 := w) w.heap.size rfl (.tmp 56) (.tmp 61) 33 58 (.agg #[(.int .i64 0), (.string ⟨#[]⟩), (.int .i64 0), (.int .i64 0), (.string ⟨#[]⟩)]) 56 rfl Try.underlying33 info58 rfl (by decide) (by omega) v237 y236 (⟨a1, a2, (⟨a3_0, a3_1, a3_2⟩ : S46)⟩ : S58) [.int .i64 a1, .string a2, .int .i64 a3_0, .int .i64 a3_1, .string a3_2] (fun k_ => some k_ ≠ (.slice Ao68 t219.length co68 : Value).ownBlock) (fun _ => False) rfl rfl ?aP (fun _ hk => hk.elim) ?aF ?aO ?aB ?aS ?aL ?_; (case aP => exact k58_mkM _ _ _ (⟨a1, a2, (⟨a3_0, a3_1, a3_2⟩ : S46)⟩ : S58)); (case aB => exact zB); (case aF => exact (fun k_ hk => Kd.fresh' (Kd.R_lt (by (with_reducible repeat (first | apply Kd.R_alloc | apply Kd.R_drewN | apply Kd.R_drew)); exact HO_225001.out)) k_ hk)); (case aO => exact (by (with_reducible repeat (first | apply Kd.R_alloc | apply Kd.R_drewN | apply Kd.R_drew)); exact HO238.out)); (case aS => exact (below_size zB)); (case aL => have := LMc84.out; omega); intro v240 w101 ho hb hg hat; rw [← Ny239.out] at ho; have n_ := z8 (Kd.R_over' (by (with_reducible repeat (first | apply Kd.R_alloc | apply Kd.R_drewN | apply Kd.R_drew)); exact HO_225000.out) (Kd.R_typed (by (with_reducible repeat (first | apply Kd.R_alloc | apply Kd.R_drewN | apply Kd.R_drew)); exact HO238.out)) (by decide) hg) (Kd.R_after (ok := (fun _ => True)) (by (with_reducible repeat (first | apply Kd.R_alloc | apply Kd.R_drewN | apply Kd.R_drew)); exact HO_225001.out) hg hat) (blk_grown (g := gb213) (o := .cells #[.slice A0_0 l0_0.length c0_0, .slice (some ad227) l0_1.length c0_1, .int .i64 a0_2, .int .i64 a0_3] 35 (0, 0)) (zP BK213) hg (Kd.R_ne HO238.out BK213.out (by decide))) (blk_grown (g := gb214) (o := .cells #[.int .i64 a3_0, .int .i64 a3_1, .string a3_2] 46 (0, 0)) (zP BK214) hg (Kd.R_ne HO238.out BK214.out (by decide))) (blk_grown (g := gb215) (o := .cells #[.slice none 0 0, .slice none 0 0, .int .i64 0, .int .i64 0] 35 (0, 0)) (zP BK215) hg (Kd.R_ne HO238.out BK215.out (by decide))) (blk_grown (g := gb224) (o := .cells #[.slice Ao63 t216.length co63, .slice Ao68 t219.length co68, .int .i64 t222, .int .i64 t223] 35 (0, 0)) (zP BK224) hg (Kd.R_ne HO238.out BK224.out (by decide))) (hb) (ho); clear HO_225000 HO_225001 BK213 BK214 BK215 BK224 HB HO238; obtain ⟨HO_225000, HO_225001, BK213, BK214, BK215, BK224, HB, HO241⟩ := n_; clear ho hb hg hat; obtain ⟨hcz102_0, hcz102_1, hcz102_2, hcz102_3, hfz102_0, hfz102_1, hfz102_2, hfz102_3⟩ := zC4 BK213; have q103 : (x11_1 : Int) ≤ ((l0_1.length : Int) : Int) := zW; obtain ⟨i0103, hi0103, _, hsz103, _⟩ := info_parts info58; have hroom103 : l0_1.length ≤ c0_1 := HC0_1.out; have hC103 : Kd.C k58 _ (some ad227) l0_1.length l0_1 := HR0_1.out; have q0103 : (0 : Int) ≤ (x11_1 : Int) := zW; have hcut103 := cut_from (P := Try.prog) 33 58 .i64 Try.underlying33 hi0103 5 hsz103 (some ad227) l0_1.length c0_1 x11_1 q0103 q103; have hr103 := Kd.C_drop (m := (x11_1 : Int).toNat) (c := c0_1) hC103 (by omega) hroom103; obtain ⟨A103, hA103⟩ : ∃ A1, A1 = (if c0_1 = (x11_1 : Int).toNat then (some ad227) else ((some ad227) : Option Addr).map (·.add ((x11_1 : Int).toNat * 5))) := ⟨_, rfl⟩; obtain ⟨c103, hc103⟩ : ∃ c1, c1 = c0_1 - (x11_1 : Int).toNat := ⟨_, rfl⟩; have hy103 : y242.length = l0_1.length - (x11_1 : Int).toNat := (by rw [Ny242.out, List.length_drop] <;> omega); rw [show (l0_1).drop (x11_1 : Int).toNat = y242 from Ny242.out.symm] at hr103; replace hr103 : Kd.C k58 _ A103 y242.length y242 := (by rw [hA103]; exact hr103); rw [← hy103, ← hA103, ← hc103] at hcut103; have HR245 := Aside0.mk hr103; have HC245 := Aside0.mk (show y242.length ≤ c103 from by rw [hy103, hc103]; exact Nat.sub_le_sub_right hroom103 _); clear hr103 hC103 hroom103 hi0103 hsz103 hc103; have KY103 := Aside0.mk hy103; have KA103 := Aside0.mk hA103; clear hy103 hA103; replace q103 := eq_true q103) | ((with_reducible refine gate_builtin (b := .append) (xs := #[.tmp 63, .tmp 67]) rfl ?_); at_builtin; refine Kd.R_append_rows k58 (w0 := w) w.heap.size rfl (.tmp 63) (.tmp 67) 33 58 (.agg #[(.int .i64 0), (.string ⟨#[]⟩), (.int .i64 0), (.int .i64 0), (.string ⟨#[]⟩)]) 56 rfl Try.underlying33 info58 rfl (by decide) (by omega) v240 y239 y242 _ _ _ (fun k_ => some k_ ≠ (.slice Ao68 t219.length co68 : Value).ownBlock) (fun _ => False) rfl rfl ?aO ?aR (fun _ _ h => h) (fun _ h => h.elim) ?aF ?aB ?aS ?aL ?_; (case aR => repeat (first | exact (Kd.C_below HR245.out HB.out) | (with_reducible refine Kd.C_alloc ?_ _) | (with_reducible refine Kd.C_drewN ?_ _) | (with_reducible refine Kd.C_drew ?_))); (case aB => exact zB); (case aF => exact (fun k_ hk => Kd.fresh' (Kd.R_lt (by (with_reducible repeat (first | apply Kd.R_alloc | apply Kd.R_drewN | apply Kd.R_drew)); exact HO_225001.out)) k_ hk)); (case aO => exact (by (with_reducible repeat (first | apply Kd.R_alloc | apply Kd.R_drewN | apply Kd.R_drew)); exact HO241.out)); (case aS => exact (below_size zB)); (case aL => have := LMc87.out; omega); intro v247 w104 ho hb hg hat; rw [← Ny246.out] at ho; have n_ := z8 (Kd.R_over' (by (with_reducible repeat (first | apply Kd.R_alloc | apply Kd.R_drewN | apply Kd.R_drew)); exact HO_225000.out) (Kd.R_typed (by (with_reducible repeat (first | apply Kd.R_alloc | apply Kd.R_drewN | apply Kd.R_drew)); exact HO241.out)) (by decide) hg) (Kd.R_after (ok := (fun _ => True)) (by (with_reducible repeat (first | apply Kd.R_alloc | apply Kd.R_drewN | apply Kd.R_drew)); exact HO_225001.out) hg hat) (blk_grown (g := gb213) (o := .cells #[.slice A0_0 l0_0.length c0_0, .slice (some ad227) l0_1.length c0_1, .int .i64 a0_2, .int .i64 a0_3] 35 (0, 0)) (zP BK213) hg (Kd.R_ne HO241.out BK213.out (by decide))) (blk_grown (g := gb214) (o := .cells #[.int .i64 a3_0, .int .i64 a3_1, .string a3_2] 46 (0, 0)) (zP BK214) hg (Kd.R_ne HO241.out BK214.out (by decide))) (blk_grown (g := gb215) (o := .cells #[.slice none 0 0, .slice none 0 0, .int .i64 0, .int .i64 0] 35 (0, 0)) (zP BK215) hg (Kd.R_ne HO241.out BK215.out (by decide))) (blk_grown (g := gb224) (o := .cells #[.slice Ao63 t216.length co63, .slice Ao68 t219.length co68, .int .i64 t222, .int .i64 t223] 35 (0, 0)) (zP BK224) hg (Kd.R_ne HO241.out BK224.out (by decide))) (hb) (ho); clear HO_225000 HO_225001 BK213 BK214 BK215 BK224 HB HO241; obtain ⟨HO_225000, HO_225001, BK213, BK214, BK215, BK224, HB, HO248⟩ := n_; clear ho hb hg hat; obtain ⟨Ao105, co105, eo105⟩ := Kd.R_slice HO248.out; subst eo105; have hnb106 := NB224_215.out; have hnc106 := NB215_224.out; obtain ⟨hcz107_0, hcz107_1, hcz107_2, hcz107_3, hfz107_0, hfz107_1, hfz107_2, hfz107_3⟩ := zC4 BK224; obtain ⟨hcz108_0, hcz108_1, hcz108_2, hcz108_3, hfz108_0, hfz108_1, hfz108_2, hfz108_3⟩ := zC4 BK215))
            refine bodyPost_ret (results_ct rfl _ _ gb215 35 #[.slice Ao63 t216.length co63, .slice Ao105 y246.length co105, .int .i64 t222, .int .i64 t223] (0, 0) _ rfl (zP BK215) Try.underlying35 rfl (by kernel_rfl)) rfl ?_
            exact ⟨_, _, by first | rfl | (simp [errW_none, errW_some] <;> rfl) | (simp [*, errW_none, errW_some] <;> rfl) | (simp [bne, errW_none, errW_some]; done) | (simp [*, bne, errW_none, errW_some]; done), by (with_reducible repeat (first | apply Kd.R_alloc | apply Kd.R_drewN | apply Kd.R_drew)); exact Kd.R_mono (Kd.R_far (p := ⟨gb215, 3, none⟩) (Kd.R_far (p := ⟨gb215, 2, none⟩) (Kd.R_far (p := ⟨gb215, 1, none⟩) (Kd.R_far (p := ⟨gb215, 0, none⟩) (Kd.R_far (p := ⟨gb224, 1, none⟩) (Kd.R_types (Kd.R_types HO_225000.out BK224.out (by decide)) BK215.out (by decide)) (fun _ hk => hk.1.2) (.slice Ao105 y246.length co105)) (fun _ hk => hk.2) (.slice Ao63 t216.length co63)) (fun _ hk => hk.2) (.slice Ao105 y246.length co105)) (fun _ hk => hk.2) (.int .i64 t222)) (fun _ hk => hk.2) (.int .i64 t223)) (fun _ hk => trivial), by (with_reducible repeat (first | apply Kd.R_alloc | apply Kd.R_drewN | apply Kd.R_drew)); exact Kd.R_mono (Kd.R_far (p := ⟨gb215, 3, none⟩) (Kd.R_far (p := ⟨gb215, 2, none⟩) (Kd.R_far (p := ⟨gb215, 1, none⟩) (Kd.R_far (p := ⟨gb215, 0, none⟩) (Kd.R_far (p := ⟨gb224, 1, none⟩) (Kd.R_types (Kd.R_types HO248.out BK224.out (by decide)) BK215.out (by decide)) (fun _ hk => hk.1.2) (.slice Ao105 y246.length co105)) (fun _ hk => hk.2) (.slice Ao63 t216.length co63)) (fun _ hk => hk.2) (.slice Ao105 y246.length co105)) (fun _ hk => hk.2) (.int .i64 t222)) (fun _ hk => hk.2) (.int .i64 t223)) (fun _ hk => trivial), zB⟩
           ·exact absurd H (by simp)
          ·exact absurd H (by simp)
         ·exact absurd H (by simp)
        ·exact absurd H (by simp)
      ·exact absurd H (by simp)
     ·have c72b0 := decide_eq_false c72
      clear c72
      obtain ⟨y249, hy249⟩ : ∃ y_ : List (S58), y_ = (([] : List (S58))) := ⟨_, rfl⟩
      replace H : (if 0 ≤ x11_1 then (if x11_1 ≤ (l0_1.length : Int) then ((some (l0_1.take (x11_1 : Int).toNat : List (S58))).bind fun y252 => (if y249.length + y252.length < 2513169434916 then ((some (y249 ++ y252 : List (S58))).bind fun y256 => (if y256.length < 2513169434916 then ((some (y256 ++ [(⟨a1, a2, (⟨a3_0, a3_1, a3_2⟩ : S46)⟩ : S58)] : List (S58))).bind fun y259 => ((some (l0_1.drop (x11_1 : Int).toNat : List (S58))).bind fun y262 => (if y259.length + y262.length < 2513169434916 then (some (t216, (y259 ++ y262), t222, t223, true)) else (none)))) else (none))) else (none))) else (none)) else (none)) = some (r1, r2, r3, r4, r5) := by first | (rw [hy249]; with_reducible exact H) | (have H2_ := (Option.bind_some _ _).symm.trans H; rw [hy249]; with_reducible exact H2_) | (have H2_ := (Option.bind_some _ _).symm.trans H; with_reducible exact H2_) | with_reducible exact H | (rw [hy249]; exact H) | exact H
      have Ny249 := Aside0.mk hy249
      clear hy249
      replace H := zI H; obtain ⟨c109, H⟩ | ⟨c109, H⟩ := H
      ·have c109b0 := eq_true c109
       have c109b1 := decide_eq_true c109
       clear c109
       replace H := zI H; obtain ⟨c110, H⟩ | ⟨c110, H⟩ := H
       ·have c110b0 := eq_true c110
        have c110b1 := decide_eq_true c110
        clear c110
        obtain ⟨y252, hy252⟩ : ∃ y_ : List (S58), y_ = (l0_1.take (x11_1 : Int).toNat) := ⟨_, rfl⟩
        replace H : (if y249.length + y252.length < 2513169434916 then ((some (y249 ++ y252 : List (S58))).bind fun y256 => (if y256.length < 2513169434916 then ((some (y256 ++ [(⟨a1, a2, (⟨a3_0, a3_1, a3_2⟩ : S46)⟩ : S58)] : List (S58))).bind fun y259 => ((some (l0_1.drop (x11_1 : Int).toNat : List (S58))).bind fun y262 => (if y259.length + y262.length < 2513169434916 then (some (t216, (y259 ++ y262), t222, t223, true)) else (none)))) else (none))) else (none)) = some (r1, r2, r3, r4, r5) := by first | (rw [hy252]; with_reducible exact H) | (have H2_ := (Option.bind_some _ _).symm.trans H; rw [hy252]; with_reducible exact H2_) | (have H2_ := (Option.bind_some _ _).symm.trans H; with_reducible exact H2_) | with_reducible exact H | (rw [hy252]; exact H) | exact H
        have Ny252 := Aside0.mk hy252
        clear hy252
        replace H := zI H; obtain ⟨c111, H⟩ | ⟨c111, H⟩ := H
        ·have LMc111 := Aside0.mk c111
         clear c111
         obtain ⟨y256, hy256⟩ : ∃ y_ : List (S58), y_ = (y249 ++ y252) := ⟨_, rfl⟩
         replace H : (if y256.length < 2513169434916 then ((some (y256 ++ [(⟨a1, a2, (⟨a3_0, a3_1, a3_2⟩ : S46)⟩ : S58)] : List (S58))).bind fun y259 => ((some (l0_1.drop (x11_1 : Int).toNat : List (S58))).bind fun y262 => (if y259.length + y262.length < 2513169434916 then (some (t216, (y259 ++ y262), t222, t223, true)) else (none)))) else (none)) = some (r1, r2, r3, r4, r5) := by first | (rw [hy256]; with_reducible exact H) | (have H2_ := (Option.bind_some _ _).symm.trans H; rw [hy256]; with_reducible exact H2_) | (have H2_ := (Option.bind_some _ _).symm.trans H; with_reducible exact H2_) | with_reducible exact H | (rw [hy256]; exact H) | exact H
         have Ny256 := Aside0.mk hy256
         clear hy256
         replace H := zI H; obtain ⟨c112, H⟩ | ⟨c112, H⟩ := H
         ·have LMc112 := Aside0.mk c112
          clear c112
          obtain ⟨y259, hy259⟩ : ∃ y_ : List (S58), y_ = (y256 ++ [(⟨a1, a2, (⟨a3_0, a3_1, a3_2⟩ : S46)⟩ : S58)]) := ⟨_, rfl⟩
          replace H : ((some (l0_1.drop (x11_1 : Int).toNat : List (S58))).bind fun y262 => (if y259.length + y262.length < 2513169434916 then (some (t216, (y259 ++ y262), t222, t223, true)) else (none))) = some (r1, r2, r3, r4, r5) := by first | (rw [hy259]; with_reducible exact H) | (have H2_ := (Option.bind_some _ _).symm.trans H; rw [hy259]; with_reducible exact H2_) | (have H2_ := (Option.bind_some _ _).symm.trans H; with_reducible exact H2_) | with_reducible exact H | (rw [hy259]; exact H) | exact H
          have Ny259 := Aside0.mk hy259
          clear hy259
          have c113b0 := eq_true (zW : 0 ≤ x11_1)
          have c114b0 := eq_true (zW : x11_1 ≤ (l0_1.length : Int))
          obtain ⟨y262, hy262⟩ : ∃ y_ : List (S58), y_ = (l0_1.drop (x11_1 : Int).toNat) := ⟨_, rfl⟩
          replace H : (if y259.length + y262.length < 2513169434916 then (some (t216, (y259 ++ y262), t222, t223, true)) else (none)) = some (r1, r2, r3, r4, r5) := by first | (rw [hy262]; with_reducible exact H) | (have H2_ := (Option.bind_some _ _).symm.trans H; rw [hy262]; with_reducible exact H2_) | (have H2_ := (Option.bind_some _ _).symm.trans H; with_reducible exact H2_) | with_reducible exact H | (rw [hy262]; exact H) | exact H
          have Ny262 := Aside0.mk hy262
          clear hy262
          replace H := zI H; obtain ⟨c115, H⟩ | ⟨c115, H⟩ := H
          ·have LMc115 := Aside0.mk c115
           clear c115
           obtain ⟨y266, hy266⟩ : ∃ y_ : List (S58), y_ = (y259 ++ y262) := ⟨_, rfl⟩
           replace H : (some (t216, y266, t222, t223, true)) = some (r1, r2, r3, r4, r5) := by first | (rw [hy266]; with_reducible exact H) | (have H2_ := (Option.bind_some _ _).symm.trans H; rw [hy266]; with_reducible exact H2_) | (have H2_ := (Option.bind_some _ _).symm.trans H; with_reducible exact H2_) | with_reducible exact H | (rw [hy266]; exact H) | exact H
           have Ny266 := Aside0.mk hy266
           clear hy266
           simp only [Option.some.injEq, Prod.mk.injEq] at H
           obtain ⟨rfl, rfl, rfl, rfl, rfl⟩ := H
           have hnb116 := NB213_214.out
           have hnc116 := NB214_213.out
           have hnb117 := NB213_215.out
           have hnc117 := NB215_213.out
           have hnb118 := NB213_224.out
           have hnc118 := NB224_213.out
           obtain ⟨hcz119_0, hcz119_1, hcz119_2, hcz119_3, hfz119_0, hfz119_1, hfz119_2, hfz119_3⟩ := zC4 BK213
           go_wp2_with (first | ((with_reducible refine gate_dst (N := 50) rfl ?_); refine Kd.R_lit k58 _ 58 ?hg (N := 50) ?hd (xs := ([] : List (S58))) (inner := []) (ok := fun _ => True) (okp := fun _ => True) ?hr ?hp (fun _ hk => hk) trivial (Below.refl _ _) (Nat.le_refl _) (by simp) ?_; (case hd => rfl); (case hg => rfl); (case hr => first | (go_simp; done) | (go_simp; rfl)); (case hp => exact (Reps.none _ _)); intro v250 w120 ho121 hb hg_ hnew_; clear hg_ hnew_; (first | rw [← Ny249.out] at ho121 | (simp only [Int.reduceToNat] at ho121; rw [← Ny249.out] at ho121)); have n_ := z8 (Kd.R_below (by (with_reducible repeat (first | apply Kd.R_alloc | apply Kd.R_drewN | apply Kd.R_drew)); exact HO_225000.out) hb) (Kd.R_elder' (by (with_reducible repeat (first | apply Kd.R_alloc | apply Kd.R_drewN | apply Kd.R_drew)); exact HO_225001.out) (Kd.R_base ho121) hb) (Kd.R_lower (Kd.R_new' ho121 (Kd.R_lt (by (with_reducible repeat (first | apply Kd.R_alloc | apply Kd.R_drewN | apply Kd.R_drew)); exact HO_225001.out))) (below_size zB)) (zb BK213 hb) (zb BK214 hb) (zb BK215 hb) (zb BK224 hb) (zs hb); clear HO_225000 HO_225001 BK213 BK214 BK215 BK224 HB; obtain ⟨HO_225000, HO_225001, HO251, BK213, BK214, BK215, BK224, HB⟩ := n_; clear hb ho121; obtain ⟨hcz122_0, hcz122_1, hcz122_2, hcz122_3, hfz122_0, hfz122_1, hfz122_2, hfz122_3⟩ := zC4 BK213; have q123 : (x11_1 : Int) ≤ ((l0_1.length : Int) : Int) := zW; obtain ⟨i0123, hi0123, _, hsz123, _⟩ := info_parts info58; have hroom123 : l0_1.length ≤ c0_1 := HC0_1.out; have hC123 : Kd.C k58 _ A0_1 l0_1.length l0_1 := HR0_1.out; have hcut123 := cut_to (P := Try.prog) 33 58 .i64 Try.underlying33 hi0123 A0_1 l0_1.length c0_1 x11_1 (zW) q123 hroom123; have hr123 := Kd.C_take (m := (x11_1 : Int).toNat) hC123 (by omega); have hy123 : y252.length = (x11_1 : Int).toNat := (by rw [Ny252.out, List.length_take]; omega); rw [← Ny252.out] at hr123; rw [← hy123] at hcut123; have HR255 := Aside0.mk hr123; have HC255 := Aside0.mk (show y252.length ≤ c0_1 from by omega); clear hr123 hC123 hroom123 hi0123 hsz123; have KY123 := Aside0.mk hy123; clear hy123; replace q123 := eq_true q123) | ((with_reducible refine gate_builtin (b := .append) (xs := #[.tmp 50, .tmp 54]) rfl ?_); at_builtin; refine Kd.R_append_rows k58 (w0 := w) w.heap.size rfl (.tmp 50) (.tmp 54) 33 58 (.agg #[(.int .i64 0), (.string ⟨#[]⟩), (.int .i64 0), (.int .i64 0), (.string ⟨#[]⟩)]) 56 rfl Try.underlying33 info58 rfl (by decide) (by omega) v250 y249 y252 _ _ _ (fun k_ => some k_ ≠ (.slice Ao68 t219.length co68 : Value).ownBlock) (fun _ => False) rfl rfl ?aO ?aR (fun _ _ h => h) (fun _ h => h.elim) ?aF ?aB ?aS ?aL ?_; (case aR => repeat (first | exact (Kd.C_below HR255.out HB.out) | (with_reducible refine Kd.C_alloc ?_ _) | (with_reducible refine Kd.C_drewN ?_ _) | (with_reducible refine Kd.C_drew ?_))); (case aB => exact zB); (case aF => exact (fun k_ hk => Kd.fresh' (Kd.R_lt (by (with_reducible repeat (first | apply Kd.R_alloc | apply Kd.R_drewN | apply Kd.R_drew)); exact HO_225001.out)) k_ hk)); (case aO => exact (by (with_reducible repeat (first | apply Kd.R_alloc | apply Kd.R_drewN | apply Kd.R_drew)); exact Kd.R_mono HO251.out (fun _ hk => hk.2))); (case aS => exact (below_size zB)); (case aL => have := LMc111.out; omega); intro v257 w124 ho hb hg hat; rw [← Ny256.out] at ho; have n_ := z8 (Kd.R_over' (by (with_reducible repeat (first | apply Kd.R_alloc | apply Kd.R_drewN | apply Kd.R_drew)); exact HO_225000.out) (Kd.R_typed (by (with_reducible repeat (first | apply Kd.R_alloc | apply Kd.R_drewN | apply Kd.R_drew)); exact HO251.out)) (by decide) hg) (Kd.R_after (ok := (fun _ => True)) (by (with_reducible repeat (first | apply Kd.R_alloc | apply Kd.R_drewN | apply Kd.R_drew)); exact HO_225001.out) hg hat) (blk_grown (g := gb213) (o := .cells #[.slice A0_0 l0_0.length c0_0, .slice A0_1 l0_1.length c0_1, .int .i64 a0_2, .int .i64 a0_3] 35 (0, 0)) (zP BK213) hg (Kd.R_ne HO251.out BK213.out (by decide))) (blk_grown (g := gb214) (o := .cells #[.int .i64 a3_0, .int .i64 a3_1, .string a3_2] 46 (0, 0)) (zP BK214) hg (Kd.R_ne HO251.out BK214.out (by decide))) (blk_grown (g := gb215) (o := .cells #[.slice none 0 0, .slice none 0 0, .int .i64 0, .int .i64 0] 35 (0, 0)) (zP BK215) hg (Kd.R_ne HO251.out BK215.out (by decide))) (blk_grown (g := gb224) (o := .cells #[.slice Ao63 t216.length co63, .slice Ao68 t219.length co68, .int .i64 t222, .int .i64 t223] 35 (0, 0)) (zP BK224) hg (Kd.R_ne HO251.out BK224.out (by decide))) (hb) (ho); clear HO_225000 HO_225001 BK213 BK214 BK215 BK224 HB HO251; obtain ⟨HO_225000, HO_225001, BK213, BK214, BK215, BK224, HB, HO258⟩ := n_; clear ho hb hg hat; have hnb125 := NB214_215.out; have hnc125 := NB215_214.out; have hnb126 := NB214_224.out; have hnc126 := NB224_214.out; obtain ⟨hcz127_0, hcz127_1, hcz127_2, hfz127_0, hfz127_1, hfz127_2⟩ := zC3 BK214) | ((with_reducible refine gate_builtin (b := .append) (xs := #[.tmp 56, .tmp 61]) rfl ?_); at_builtin; refine Kd.R_append k58 (w0 := w) w.heap.size rfl (.tmp 56) (.tmp 61) 33 58 (.agg #[(.int .i64 0), (.string ⟨#[]⟩), (.int .i64 0), (.int .i64 0), (.string ⟨#[]⟩)]) 56 rfl Try.underlying33 info58 rfl (by decide) (by omega) v257 y256 (⟨a1, a2, (⟨a3_0, a3_1, a3_2⟩ : S46)⟩ : S58) [.int .i64 a1, .string a2, .int .i64 a3_0, .int .i64 a3_1, .string a3_2] (fun k_ => some k_ ≠ (.slice Ao68 t219.length co68 : Value).ownBlock) (fun _ => False) rfl rfl ?aP (fun _ hk => hk.elim) ?aF ?aO ?aB ?aS ?aL ?_; (case aP => exact k58_mkM _ _ _ (⟨a1, a2, (⟨a3_0, a3_1, a3_2⟩ : S46)⟩ : S58)); (case aB => exact zB); (case aF => exact (fun k_ hk => Kd.fresh' (Kd.R_lt (by (with_reducible repeat (first | apply Kd.R_alloc | apply Kd.R_drewN | apply Kd.R_drew)); exact HO_225001.out)) k_ hk)); (case aO => exact (by (with_reducible repeat (first | apply Kd.R_alloc | apply Kd.R_drewN | apply Kd.R_drew)); exact HO258.out)); (case aS => exact (below_size zB)); (case aL => have := LMc112.out; omega); intro v260 w128 ho hb hg hat; rw [← Ny259.out] at ho; have n_ := z8 (Kd.R_over' (by (with_reducible repeat (first | apply Kd.R_alloc | apply Kd.R_drewN | apply Kd.R_drew)); exact HO_225000.out) (Kd.R_typed (by (with_reducible repeat (first | apply Kd.R_alloc | apply Kd.R_drewN | apply Kd.R_drew)); exact HO258.out)) (by decide) hg) (Kd.R_after (ok := (fun _ => True)) (by (with_reducible repeat (first | apply Kd.R_alloc | apply Kd.R_drewN | apply Kd.R_drew)); exact HO_225001.out) hg hat) (blk_grown (g := gb213) (o := .cells #[.slice A0_0 l0_0.length c0_0, .slice A0_1 l0_1.length c0_1, .int .i64 a0_2, .int .i64 a0_3] 35 (0, 0)) (zP BK213) hg (Kd.R_ne HO258.out BK213.out (by decide))) (blk_grown (g := gb214) (o := .cells #[.int .i64 a3_0, .int .i64 a3_1, .string a3_2] 46 (0, 0)) (zP BK214) hg (Kd.R_ne HO258.out BK214.out (by decide))) (blk_grown (g := gb215) (o := .cells #[.slice none 0 0, .slice none 0 0, .int .i64 0, .int .i64 0] 35 (0, 0)) (zP BK215) hg (Kd.R_ne HO258.out BK215.out (by decide))) (blk_grown (g := gb224) (o := .cells #[.slice Ao63 t216.length co63, .slice Ao68 t219.length co68, .int .i64 t222, .int .i64 t223] 35 (0, 0)) (zP BK224) hg (Kd.R_ne HO258.out BK224.out (by decide))) (hb) (ho); clear HO_225000 HO_225001 BK213 BK214 BK215 BK224 HB HO258; obtain ⟨HO_225000, HO_225001, BK213, BK214, BK215, BK224, HB, HO261⟩ := n_; clear ho hb hg hat; obtain ⟨hcz129_0, hcz129_1, hcz129_2, hcz129_3, hfz129_0, hfz129_1, hfz129_2, hfz129_3⟩ := zC4 BK213; have q130 : (x11_1 : Int) ≤ ((l0_1.length : Int) : Int) := zW; obtain ⟨i0130, hi0130, _, hsz130, _⟩ := info_parts info58; have hroom130 : l0_1.length ≤ c0_1 := HC0_1.out; have hC130 : Kd.C k58 _ A0_1 l0_1.length l0_1 := HR0_1.out; have q0130 : (0 : Int) ≤ (x11_1 : Int) := zW; have hcut130 := cut_from (P := Try.prog) 33 58 .i64 Try.underlying33 hi0130 5 hsz130 A0_1 l0_1.length c0_1 x11_1 q0130 q130; have hr130 := Kd.C_drop (m := (x11_1 : Int).toNat) (c := c0_1) hC130 (by omega) hroom130; obtain ⟨A130, hA130⟩ : ∃ A1, A1 = (if c0_1 = (x11_1 : Int).toNat then A0_1 else (A0_1 : Option Addr).map (·.add ((x11_1 : Int).toNat * 5))) := ⟨_, rfl⟩; obtain ⟨c130, hc130⟩ : ∃ c1, c1 = c0_1 - (x11_1 : Int).toNat := ⟨_, rfl⟩; have hy130 : y262.length = l0_1.length - (x11_1 : Int).toNat := (by rw [Ny262.out, List.length_drop] <;> omega); rw [show (l0_1).drop (x11_1 : Int).toNat = y262 from Ny262.out.symm] at hr130; replace hr130 : Kd.C k58 _ A130 y262.length y262 := (by rw [hA130]; exact hr130); rw [← hy130, ← hA130, ← hc130] at hcut130; have HR265 := Aside0.mk hr130; have HC265 := Aside0.mk (show y262.length ≤ c130 from by rw [hy130, hc130]; exact Nat.sub_le_sub_right hroom130 _); clear hr130 hC130 hroom130 hi0130 hsz130 hc130; have KY130 := Aside0.mk hy130; have KA130 := Aside0.mk hA130; clear hy130 hA130; replace q130 := eq_true q130) | ((with_reducible refine gate_builtin (b := .append) (xs := #[.tmp 63, .tmp 67]) rfl ?_); at_builtin; refine Kd.R_append_rows k58 (w0 := w) w.heap.size rfl (.tmp 63) (.tmp 67) 33 58 (.agg #[(.int .i64 0), (.string ⟨#[]⟩), (.int .i64 0), (.int .i64 0), (.string ⟨#[]⟩)]) 56 rfl Try.underlying33 info58 rfl (by decide) (by omega) v260 y259 y262 _ _ _ (fun k_ => some k_ ≠ (.slice Ao68 t219.length co68 : Value).ownBlock) (fun _ => False) rfl rfl ?aO ?aR (fun _ _ h => h) (fun _ h => h.elim) ?aF ?aB ?aS ?aL ?_; (case aR => repeat (first | exact (Kd.C_below HR265.out HB.out) | (with_reducible refine Kd.C_alloc ?_ _) | (with_reducible refine Kd.C_drewN ?_ _) | (with_reducible refine Kd.C_drew ?_))); (case aB => exact zB); (case aF => exact (fun k_ hk => Kd.fresh' (Kd.R_lt (by (with_reducible repeat (first | apply Kd.R_alloc | apply Kd.R_drewN | apply Kd.R_drew)); exact HO_225001.out)) k_ hk)); (case aO => exact (by (with_reducible repeat (first | apply Kd.R_alloc | apply Kd.R_drewN | apply Kd.R_drew)); exact HO261.out)); (case aS => exact (below_size zB)); (case aL => have := LMc115.out; omega); intro v267 w131 ho hb hg hat; rw [← Ny266.out] at ho; have n_ := z8 (Kd.R_over' (by (with_reducible repeat (first | apply Kd.R_alloc | apply Kd.R_drewN | apply Kd.R_drew)); exact HO_225000.out) (Kd.R_typed (by (with_reducible repeat (first | apply Kd.R_alloc | apply Kd.R_drewN | apply Kd.R_drew)); exact HO261.out)) (by decide) hg) (Kd.R_after (ok := (fun _ => True)) (by (with_reducible repeat (first | apply Kd.R_alloc | apply Kd.R_drewN | apply Kd.R_drew)); exact HO_225001.out) hg hat) (blk_grown (g := gb213) (o := .cells #[.slice A0_0 l0_0.length c0_0, .slice A0_1 l0_1.length c0_1, .int .i64 a0_2, .int .i64 a0_3] 35 (0, 0)) (zP BK213) hg (Kd.R_ne HO261.out BK213.out (by decide))) (blk_grown (g := gb214) (o := .cells #[.int .i64 a3_0, .int .i64 a3_1, .string a3_2] 46 (0, 0)) (zP BK214) hg (Kd.R_ne HO261.out BK214.out (by decide))) (blk_grown (g := gb215) (o := .cells #[.slice none 0 0, .slice none 0 0, .int .i64 0, .int .i64 0] 35 (0, 0)) (zP BK215) hg (Kd.R_ne HO261.out BK215.out (by decide))) (blk_grown (g := gb224) (o := .cells #[.slice Ao63 t216.length co63, .slice Ao68 t219.length co68, .int .i64 t222, .int .i64 t223] 35 (0, 0)) (zP BK224) hg (Kd.R_ne HO261.out BK224.out (by decide))) (hb) (ho); clear HO_225000 HO_225001 BK213 BK214 BK215 BK224 HB HO261; obtain ⟨HO_225000, HO_225001, BK213, BK214, BK215, BK224, HB, HO268⟩ := n_; clear ho hb hg hat; obtain ⟨Ao132, co132, eo132⟩ := Kd.R_slice HO268.out; subst eo132; have hnb133 := NB224_215.out; have hnc133 := NB215_224.out; obtain ⟨hcz134_0, hcz134_1, hcz134_2, hcz134_3, hfz134_0, hfz134_1, hfz134_2, hfz134_3⟩ := zC4 BK224; obtain ⟨hcz135_0, hcz135_1, hcz135_2, hcz135_3, hfz135_0, hfz135_1, hfz135_2, hfz135_3⟩ := zC4 BK215))
           refine bodyPost_ret (results_ct rfl _ _ gb215 35 #[.slice Ao63 t216.length co63, .slice Ao132 y266.length co132, .int .i64 t222, .int .i64 t223] (0, 0) _ rfl (zP BK215) Try.underlying35 rfl (by kernel_rfl)) rfl ?_
           exact ⟨_, _, by first | rfl | (simp [errW_none, errW_some] <;> rfl) | (simp [*, errW_none, errW_some] <;> rfl) | (simp [bne, errW_none, errW_some]; done) | (simp [*, bne, errW_none, errW_some]; done), by (with_reducible repeat (first | apply Kd.R_alloc | apply Kd.R_drewN | apply Kd.R_drew)); exact Kd.R_mono (Kd.R_far (p := ⟨gb215, 3, none⟩) (Kd.R_far (p := ⟨gb215, 2, none⟩) (Kd.R_far (p := ⟨gb215, 1, none⟩) (Kd.R_far (p := ⟨gb215, 0, none⟩) (Kd.R_far (p := ⟨gb224, 1, none⟩) (Kd.R_types (Kd.R_types HO_225000.out BK224.out (by decide)) BK215.out (by decide)) (fun _ hk => hk.1.2) (.slice Ao132 y266.length co132)) (fun _ hk => hk.2) (.slice Ao63 t216.length co63)) (fun _ hk => hk.2) (.slice Ao132 y266.length co132)) (fun _ hk => hk.2) (.int .i64 t222)) (fun _ hk => hk.2) (.int .i64 t223)) (fun _ hk => trivial), by (with_reducible repeat (first | apply Kd.R_alloc | apply Kd.R_drewN | apply Kd.R_drew)); exact Kd.R_mono (Kd.R_far (p := ⟨gb215, 3, none⟩) (Kd.R_far (p := ⟨gb215, 2, none⟩) (Kd.R_far (p := ⟨gb215, 1, none⟩) (Kd.R_far (p := ⟨gb215, 0, none⟩) (Kd.R_far (p := ⟨gb224, 1, none⟩) (Kd.R_types (Kd.R_types HO268.out BK224.out (by decide)) BK215.out (by decide)) (fun _ hk => hk.1.2) (.slice Ao132 y266.length co132)) (fun _ hk => hk.2) (.slice Ao63 t216.length co63)) (fun _ hk => hk.2) (.slice Ao132 y266.length co132)) (fun _ hk => hk.2) (.int .i64 t222)) (fun _ hk => hk.2) (.int .i64 t223)) (fun _ hk => trivial), zB⟩
          ·exact absurd H (by simp)
         ·exact absurd H (by simp)
        ·exact absurd H (by simp)
       ·exact absurd H (by simp)
      ·exact absurd H (by simp)

/-! ### impl_Val: function 48 -/
theorem impl_Val.calls (A0 : Option Addr) (c0 : Nat) (l0 : List (S46)) (r : List (S46)) (w : World) (hr0 : Kd.C k46 w A0 l0.length l0) (hc0 : l0.length ≤ c0) (h : impl_Val.f l0 = some r) :
  Calls Try.prog 48 #[.slice A0 l0.length c0] w fun e w' => ∃ v0_ : Value, e = .returned (v0_) ∧ Kd.R k46 46 w' w.heap.size (fun _ => True) v0_ r ∧ Below w.heap.size w w' := by
 unfold impl_Val.f at h
 split at h
 ·rename_i hn_
  obtain rfl := Option.some.inj h
  have q_ : ∀ (w : World) (a : Option Addr) (n c n' c' : Nat), (binOp .eql 32 (.slice a n c) (.slice none n' c')).run Try.prog w = .ok (.bool a.isNone) w := fun w a n c n' c' => Lib.run_eql_slice_nil w _ _ a n c n' c' Try.underlying32
  obtain ⟨news, hN_⟩ : ∃ news : List Value, news = l0.flatMap (fun x : S46 => ([.int .i64 x.f0, .int .i64 x.f1, .string x.f2] : List Value)) := ⟨_, rfl⟩
  have hl_ : news.length = l0.length * 3 := hN_ ▸ Go.Proofs.YtehefologhfdhaaW.RowK.flat_len (enc := (fun x : S46 => ([.int .i64 x.f0, .int .i64 x.f1, .string x.f2] : List Value))) (size := 3) (fun _ => rfl) l0
  have h1_ : ∀ u ∈ news, u.oneCell' = true := hN_ ▸ Go.Proofs.YtehefologhfdhaaW.RowK.flat_one (fun x u hu => Kd.K_one k46 (k46_mk w x) u hu) l0
  obtain ⟨i0, hi_, hzz_⟩ := Option.map_eq_some_iff.1 info46
  simp only [Prod.mk.injEq] at hzz_
  obtain ⟨hz0_, hz1_, hz2_⟩ := hzz_
  cases A0 with
  | none =>
   obtain rfl : l0 = [] := by
    rcases l0 with _ | ⟨x, t⟩
    ·rfl
    ·obtain ⟨_, e, _⟩ := hr0.2.2 (by simp)
     cases e
   clear hr0 hl_ h1_ hN_
   go_enter Try.func48, Try.ntmps48
   go_wp2
   go_ret
   exact ⟨_, rfl, Kd.R_nil _ _ _ _ _, Below.refl _ _⟩
  | some a =>
   have A_ := Aside0.mk (show ∀ j u, news[j]? = some u → w.cell? (a.add j) = some u from hN_ ▸ Go.Proofs.YtehefologhfdhaaW.RowK.reads_cells (d := k46) (enc := (fun x : S46 => ([.int .i64 x.f0, .int .i64 x.f1, .string x.f2] : List Value))) (fun _ => rfl) (by decide) (fun _ _ _ h => k46_open h) hr0)
   have NN_ := Aside0.mk hN_
   clear hr0 hN_
   go_enter Try.func48, Try.ntmps48
   go_wp2_with (at_builtin; refine wpList_append_own _ rfl _ _ 32 rfl w.heap.size 46 i0 (.agg #[(.int .i64 0), (.int .i64 0), (.string ⟨#[]⟩)]) 3 32 Try.underlying32 hi_ hz0_ hz1_ hz2_ rfl (by decide) _ _ _ rfl (World.ownsRow_made w #[] 0 (Nat.le_refl _) (Nat.zero_le _) (by simp)) a l0.length c0 news rfl ?qc1 ?qc2 ?qc3 ?qc4 ?qc5 ?qc6 ?_)
   case qc2 =>
    intro j u hj
    exact Lib.cell?_alloc_some _ (A_.out j u hj)
   case qc3 => exact h1_
   case qc4 => unfold maxLen; omega
   case qc5 => omega
   intro v' w1 hown hgrow hnil
   go_wp2
   go_ret
   have h_ : w1.ownsRow w.heap.size 46 3 v' l0.length news := by simpa using hown
   rw [NN_.out] at h_
   refine ⟨v', rfl, Go.Proofs.YtehefologhfdhaaW.RowK.flat_own (d := k46) (enc := (fun x : S46 => ([.int .i64 x.f0, .int .i64 x.f1, .string x.f2] : List Value))) (fun _ => rfl) (fun w base ok x => k46_mkM w base ok x) h_ (fun _ _ => trivial), ?_⟩
   exact ((Below.refl _ w).alloc (Nat.le_refl _) _).grown hgrow (by simp) (by intro k hk; simp [Value.ownBlock] at hk; omega)
 ·simp at h

/-! ### impl_Cell_49: function 49 -/
theorem impl_Cell_49.calls (A0 : Option Addr) (c0 : Nat) (l0 : List (S58)) (r : List (S58)) (w : World) (hr0 : Kd.C k58 w A0 l0.length l0) (hc0 : l0.length ≤ c0) (h : impl_Cell_49.f l0 = some r) :
  Calls Try.prog 49 #[.slice A0 l0.length c0] w fun e w' => ∃ v0_ : Value, e = .returned (v0_) ∧ Kd.R k58 58 w' w.heap.size (fun _ => True) v0_ r ∧ Below w.heap.size w w' := by
 unfold impl_Cell_49.f at h
 split at h
 ·rename_i hn_
  obtain rfl := Option.some.inj h
  have q_ : ∀ (w : World) (a : Option Addr) (n c n' c' : Nat), (binOp .eql 33 (.slice a n c) (.slice none n' c')).run Try.prog w = .ok (.bool a.isNone) w := fun w a n c n' c' => Lib.run_eql_slice_nil w _ _ a n c n' c' Try.underlying33
  obtain ⟨news, hN_⟩ : ∃ news : List Value, news = l0.flatMap (fun x : S58 => ([.int .i64 x.f0, .string x.f1, .int .i64 x.f2.f0, .int .i64 x.f2.f1, .string x.f2.f2] : List Value)) := ⟨_, rfl⟩
  have hl_ : news.length = l0.length * 5 := hN_ ▸ Go.Proofs.YtehefologhfdhaaW.RowK.flat_len (enc := (fun x : S58 => ([.int .i64 x.f0, .string x.f1, .int .i64 x.f2.f0, .int .i64 x.f2.f1, .string x.f2.f2] : List Value))) (size := 5) (fun _ => rfl) l0
  have h1_ : ∀ u ∈ news, u.oneCell' = true := hN_ ▸ Go.Proofs.YtehefologhfdhaaW.RowK.flat_one (fun x u hu => Kd.K_one k58 (k58_mk w x) u hu) l0
  obtain ⟨i0, hi_, hzz_⟩ := Option.map_eq_some_iff.1 info58
  simp only [Prod.mk.injEq] at hzz_
  obtain ⟨hz0_, hz1_, hz2_⟩ := hzz_
  cases A0 with
  | none =>
   obtain rfl : l0 = [] := by
    rcases l0 with _ | ⟨x, t⟩
    ·rfl
    ·obtain ⟨_, e, _⟩ := hr0.2.2 (by simp)
     cases e
   clear hr0 hl_ h1_ hN_
   go_enter Try.func49, Try.ntmps49
   go_wp2
   go_ret
   exact ⟨_, rfl, Kd.R_nil _ _ _ _ _, Below.refl _ _⟩
  | some a =>
   have A_ := Aside0.mk (show ∀ j u, news[j]? = some u → w.cell? (a.add j) = some u from hN_ ▸ Go.Proofs.YtehefologhfdhaaW.RowK.reads_cells (d := k58) (enc := (fun x : S58 => ([.int .i64 x.f0, .string x.f1, .int .i64 x.f2.f0, .int .i64 x.f2.f1, .string x.f2.f2] : List Value))) (fun _ => rfl) (by decide) (fun _ _ _ h => k58_open h) hr0)
   have NN_ := Aside0.mk hN_
   clear hr0 hN_
   go_enter Try.func49, Try.ntmps49
   go_wp2_with (at_builtin; refine wpList_append_own _ rfl _ _ 33 rfl w.heap.size 58 i0 (.agg #[(.int .i64 0), (.string ⟨#[]⟩), (.int .i64 0), (.int .i64 0), (.string ⟨#[]⟩)]) 5 56 Try.underlying33 hi_ hz0_ hz1_ hz2_ rfl (by decide) _ _ _ rfl (World.ownsRow_made w #[] 0 (Nat.le_refl _) (Nat.zero_le _) (by simp)) a l0.length c0 news rfl ?qc1 ?qc2 ?qc3 ?qc4 ?qc5 ?qc6 ?_)
   case qc2 =>
    intro j u hj
    exact Lib.cell?_alloc_some _ (A_.out j u hj)
   case qc3 => exact h1_
   case qc4 => unfold maxLen; omega
   case qc5 => omega
   intro v' w1 hown hgrow hnil
   go_wp2
   go_ret
   have h_ : w1.ownsRow w.heap.size 58 5 v' l0.length news := by simpa using hown
   rw [NN_.out] at h_
   refine ⟨v', rfl, Go.Proofs.YtehefologhfdhaaW.RowK.flat_own (d := k58) (enc := (fun x : S58 => ([.int .i64 x.f0, .string x.f1, .int .i64 x.f2.f0, .int .i64 x.f2.f1, .string x.f2.f2] : List Value))) (fun _ => rfl) (fun w base ok x => k58_mkM w base ok x) h_ (fun _ _ => trivial), ?_⟩
   exact ((Below.refl _ w).alloc (Nat.le_refl _) _).grown hgrow (by simp) (by intro k hk; simp [Value.ownBlock] at hk; omega)
 ·simp at h

/-! ### impl_cloneState: function 30 -/
def impl_cloneState.T1 : Bool × List (List Nat × List Nat) := (true, [([], []), ([0], [0]), ([1], [1]), ([], []), ([3], [3]), ([4, 2], [4]), ([0, 1, 2, 3, 4], []), ([6, 2, 5, 0, 1, 2, 3, 4], [2, 6]), ([0, 1, 2, 3, 4, 5, 6, 7], []), ([8, 5, 7, 0, 1, 2, 3, 4, 5, 6, 7], [5, 8])])
def impl_cloneState.B1 : List Nat := [0, 1, 3, 0, 8, 31, 31, 127, 255, 511]
theorem impl_cloneState.tab1 : rtab .any (opsOf Try.f30 1) = impl_cloneState.T1 := by kernel_rfl
theorem impl_cloneState.bits1 : waitsOk impl_cloneState.T1.2 impl_cloneState.B1 = true := by kernel_rfl
theorem impl_cloneState.calls (A0_0 : Option Addr) (c0_0 : Nat) (l0_0 : List (S46)) (A0_1 : Option Addr) (c0_1 : Nat) (l0_1 : List (S58)) (a0_2 : Int) (a0_3 : Int) (r1 : List (S46)) (r2 : List (S58)) (r3 : Int) (r4 : Int) (w : World) (hr0_0 : Kd.C k46 w A0_0 l0_0.length l0_0) (hc0_0 : l0_0.length ≤ c0_0) (hr0_1 : Kd.C k58 w A0_1 l0_1.length l0_1) (hc0_1 : l0_1.length ≤ c0_1) (h : impl_cloneState.f l0_0 l0_1 a0_2 a0_3 = some (r1, r2, r3, r4)) :
  Calls Try.prog 30 #[.agg #[.slice A0_0 l0_0.length c0_0, .slice A0_1 l0_1.length c0_1, .int .i64 a0_2, .int .i64 a0_3]] w fun e w' => ∃ v0_ v1_ : Value, e = .returned (.agg #[v0_, v1_, .int .i64 r3, .int .i64 r4]) ∧ Kd.R k46 46 w' w.heap.size (fun _ => True) v0_ r1 ∧ Kd.R k58 58 w' w.heap.size (fun _ => True) v1_ r2 ∧ Below w.heap.size w w' := by
 have hu35 := Try.underlying35
 have HR0_0 := Aside0.mk hr0_0
 have HC0_0 := Aside0.mk hc0_0
 clear hr0_0 hc0_0
 have HR0_1 := Aside0.mk hr0_1
 have HC0_1 := Aside0.mk hc0_1
 clear hr0_1 hc0_1
 have HB := Aside0.mk (Below.refl w.heap.size w)
 rw [impl_cloneState.f] at h
 have H := h
 clear h
 replace H := zO H; obtain ⟨t271, A2, H⟩ := H
 replace H := zO H; obtain ⟨t274, A3, H⟩ := H
 simp only [Option.some.injEq, Prod.mk.injEq] at H
 obtain ⟨rfl, rfl, rfl, rfl⟩ := H
 go_enter Try.func30, Try.ntmps30
 try go_wp2_with (first | ((with_reducible refine gate_dst (N := 1) rfl ?_); refine zX (N := 1) (cs := #[.slice A0_0 l0_0.length c0_0, .slice A0_1 l0_1.length c0_1, .int .i64 a0_2, .int .i64 a0_3]) (t := 35) ?_; intro gb269 hg w4 hbox hb; have n_ := z4 (zs hb) (hbox) (zl hg) (zl hg); clear HB; obtain ⟨HB, BK269, GW269, GE269⟩ := n_; clear hb hbox hg) | ((with_reducible refine gate_dst (N := 2) rfl ?_); refine zX (N := 2) (cs := #[.slice none 0 0, .slice none 0 0, .int .i64 0, .int .i64 0]) (t := 35) ?_; intro gb270 hg w5 hbox hb; have n_ := z7 (zb BK269 hb) (zs hb) (hbox) (zl hg) (zl hg) (zn BK269 hg) (zm BK269 hg); clear BK269 HB; obtain ⟨BK269, HB, BK270, GW270, GE270, NB269_270, NB270_269⟩ := n_; clear hb hbox hg))
 have n0_ := Aside0.mk (blk_drew BK269.out)
 have n1_ := Aside0.mk (blk_drew BK270.out)
 have n2_ := Aside0.mk (below_drew1 HB.out)
 clear BK269
 clear BK270
 clear HB
 have BK269 := n0_
 have BK270 := n1_
 have HB := n2_
 clear n0_ n1_ n2_
 refine start_ (n := 10) (S := fun w' => w'.cell? ⟨gb269, 0, none⟩ = some (.slice A0_0 l0_0.length c0_0) ∧ w'.cell? ⟨gb269, 1, none⟩ = some (.slice A0_1 l0_1.length c0_1) ∧ w'.cell? ⟨gb269, 2, none⟩ = some (.int .i64 a0_2) ∧ w'.cell? ⟨gb269, 3, none⟩ = some (.int .i64 a0_3)) (ds := [7, 9]) #[false, false, false, false, false, false, false, false, false, false] (by kernel_rfl) rfl rfl ⟨(blk_cell BK269.out 0).trans rfl, (blk_cell BK269.out 1).trans rfl, (blk_cell BK269.out 2).trans rfl, (blk_cell BK269.out 3).trans rfl⟩ (fun hHeld => ?_); refine with_tabW impl_cloneState.tab1 impl_cloneState.bits1 (fun HT_ HW_ => ?_)
 generalize w5.drew = w6 at BK269 BK270 HB hHeld ⊢
 refine pure_ (i := 0) (N := some 3) (v := ?_) (a' := ?_) #[true, false, false, false, false, false, false, false, false, false] rfl rfl (any_of HT_.out (by kernel_rfl)) (fun _ _ _ h => h) (Or.inl ⟨by rfl, ?_⟩) ?_ ?_
 rotate_left
 ·intro w'
  go_simp
  with_reducible rfl
 rotate_left
 ·simp only [Act.put, List.setIfInBounds_toArray, List.set_cons_zero, List.set_cons_succ, i64_w, i32_w]
  rfl
 refine pure_ (i := 3) (N := some 6) (v := ?_) (a' := ?_) #[true, false, false, true, false, false, false, false, false, false] rfl rfl (any_of HT_.out (by kernel_rfl)) (fun _ _ _ h => h) (Or.inl ⟨by rfl, ?_⟩) ?_ ?_
 rotate_left
 ·intro w'
  go_simp
  with_reducible rfl
 rotate_left
 ·simp only [Act.put, List.setIfInBounds_toArray, List.set_cons_zero, List.set_cons_succ, i64_w, i32_w]
  rfl
 refine take_ (i := 1) (N := some 4) (v := ?_) (a' := ?_) #[true, true, false, true, false, false, false, false, false, false] rfl rfl (take_ofW HT_.out HW_.out (by kernel_rfl)) (fun _ _ _ h => h) (Or.inl ⟨by rfl, ?_⟩) hHeld ?_ ?_
 rotate_left
 ·rintro w' ⟨s0, s1, s2, s3⟩
  go_simp
  with_reducible rfl
 rotate_left
 ·simp only [Act.put, List.setIfInBounds_toArray, List.set_cons_zero, List.set_cons_succ, i64_w, i32_w]
  rfl
 refine take_ (i := 4) (N := some 7) (v := ?_) (a' := ?_) #[true, true, false, true, true, false, false, false, false, false] rfl rfl (take_ofW HT_.out HW_.out (by kernel_rfl)) (fun _ _ _ h => h) (Or.inl ⟨by rfl, ?_⟩) hHeld ?_ ?_
 rotate_left
 ·rintro w' ⟨s0, s1, s2, s3⟩
  go_simp
  with_reducible rfl
 rotate_left
 ·simp only [Act.put, List.setIfInBounds_toArray, List.set_cons_zero, List.set_cons_succ, i64_w, i32_w]
  rfl
 refine one_ (i := 2) (N := some 5) #[true, true, true, true, true, false, false, false, false, false] rfl rfl (one_of HT_.out (by kernel_rfl)) (by decide) (fun K hK => ?_)
 refine goes_ Try.func48 (by kernel_rfl) rfl #[.slice A0_0 l0_0.length c0_0] (by rfl) rfl rfl zA ?_
 with_reducible refine (impl_Val.calls _ _ l0_0 t271 _ ?side1 ?side2 A2.out).mono ?_
 (case side1 => repeat (first | exact (Kd.C_below HR0_0.out HB.out) | (with_reducible refine Kd.C_alloc ?_ _) | (with_reducible refine Kd.C_drewN ?_ _) | (with_reducible refine Kd.C_drew ?_)))
 (case side2 => exact HC0_0.out)
 rintro e w7 ⟨v272, rfl, ho0, hb⟩
 refine ⟨_, rfl, ?_⟩
 have n0_ := Aside0.mk (Kd.R_lower ho0 (below_size zB))
 have n1_ := Aside0.mk (zb BK269 hb)
 have n2_ := Aside0.mk (zb BK270 hb)
 have n3_ := Aside0.mk (zs hb)
 clear BK269
 clear BK270
 clear HB
 have HO273 := n0_
 have BK269 := n1_
 have BK270 := n2_
 have HB := n3_
 clear n0_ n1_ n2_ n3_
 (try clear hb)
 (try clear hb2)
 (try clear hk)
 (try clear hi)
 (try clear ho0)
 refine hK.out _ _ ⟨(blk_cell BK269.out 0).trans rfl, (blk_cell BK269.out 1).trans rfl, (blk_cell BK269.out 2).trans rfl, (blk_cell BK269.out 3).trans rfl⟩ (fun hHeld => ?_)
 clear hK K
 refine norm_ (a' := ?_) ?_ ?_
 rotate_left
 ·show Act.put _ (some 5) _ = _
  simp only [Act.put, List.setIfInBounds_toArray, List.set_cons_zero, List.set_cons_succ, i64_w, i32_w]
  rfl
 refine pure_ (i := 6) (N := some 9) (v := ?_) (a' := ?_) #[true, true, true, true, true, false, true, false, false, false] rfl rfl (any_of HT_.out (by kernel_rfl)) (fun _ _ _ h => h) (Or.inl ⟨by rfl, ?_⟩) ?_ ?_
 rotate_left
 ·intro w'
  go_simp
  with_reducible rfl
 rotate_left
 ·simp only [Act.put, List.setIfInBounds_toArray, List.set_cons_zero, List.set_cons_succ, i64_w, i32_w]
  rfl
 refine one_ (i := 5) (N := some 8) #[true, true, true, true, true, true, true, false, false, false] rfl rfl (one_of HT_.out (by kernel_rfl)) (by decide) (fun K hK => ?_)
 refine goes_ Try.func49 (by kernel_rfl) rfl #[.slice A0_1 l0_1.length c0_1] (by rfl) rfl rfl zA ?_
 with_reducible refine (impl_Cell_49.calls _ _ l0_1 t274 _ ?side1 ?side2 A3.out).mono ?_
 (case side1 => repeat (first | exact (Kd.C_below HR0_1.out HB.out) | (with_reducible refine Kd.C_alloc ?_ _) | (with_reducible refine Kd.C_drewN ?_ _) | (with_reducible refine Kd.C_drew ?_)))
 (case side2 => exact HC0_1.out)
 rintro e w8 ⟨v275, rfl, ho0, hb⟩
 refine ⟨_, rfl, ?_⟩
 have n0_ := Aside0.mk (Kd.R_below (by (with_reducible repeat (first | apply Kd.R_alloc | apply Kd.R_drewN | apply Kd.R_drew)); exact HO273.out) hb)
 have n1_ := Aside0.mk (Kd.R_lower ho0 (below_size zB))
 have n2_ := Aside0.mk (zb BK269 hb)
 have n3_ := Aside0.mk (zb BK270 hb)
 have n4_ := Aside0.mk (zs hb)
 clear HO273
 clear BK269
 clear BK270
 clear HB
 have HO273 := n0_
 have HO276 := n1_
 have BK269 := n2_
 have BK270 := n3_
 have HB := n4_
 clear n0_ n1_ n2_ n3_ n4_
 (try clear hb)
 (try clear hb2)
 (try clear hk)
 (try clear hi)
 (try clear ho0)
 obtain ⟨Ao9, co9, eo9⟩ := Kd.R_slice HO273.out
 (first | subst eo9 | (injection eo9 with f1_ f2_ f3_; have f4_ := f1_.symm; have f5_ := f3_.symm; clear f1_ f2_ f3_; subst f4_; subst f5_))
 obtain ⟨Ao11, co11, eo11⟩ := Kd.R_slice HO276.out
 (first | subst eo11 | (injection eo11 with f1_ f2_ f3_; have f4_ := f1_.symm; have f5_ := f3_.symm; clear f1_ f2_ f3_; subst f4_; subst f5_))
 refine hK.out _ _ ⟨(blk_cell BK269.out 0).trans rfl, (blk_cell BK269.out 1).trans rfl, (blk_cell BK269.out 2).trans rfl, (blk_cell BK269.out 3).trans rfl⟩ (fun hHeld => ?_)
 clear hK K
 refine norm_ (a' := ?_) ?_ ?_
 rotate_left
 ·show Act.put _ (some 8) _ = _
  simp only [Act.put, List.setIfInBounds_toArray, List.set_cons_zero, List.set_cons_succ, i64_w, i32_w]
  rfl
 refine last_ (i := 7) (N := none) #[true, true, true, true, true, true, true, true, false, false] rfl rfl (one_of HT_.out (by kernel_rfl)) (by decide) (fun K hK => ?_)
 have hs10 : w8.cell? ⟨gb269, 0, none⟩ = some (.slice A0_0 l0_0.length c0_0) := (blk_cell BK269.out 0).trans rfl
 have hfs10 := blk_frozen BK269.out 0
 have hns10_1 := NB270_269.out
 have hms10_1 := NB269_270.out
 refine skip_ (w1 := ?_) (by rfl) rfl ?_ ?_
 rotate_left
 ·go_simp
  rfl
 refine hK.out _ _ ?_
 clear hK K
 refine pure_ (i := 8) (N := some 10) (v := ?_) (a' := ?_) #[true, true, true, true, true, true, true, true, true, false] rfl rfl (any_of HT_.out (by kernel_rfl)) (fun _ _ _ h => h) (Or.inl ⟨by rfl, ?_⟩) ?_ ?_
 rotate_left
 ·intro w'
  go_simp
  with_reducible rfl
 rotate_left
 ·simp only [Act.put, List.setIfInBounds_toArray, List.set_cons_zero, List.set_cons_succ, i64_w, i32_w]
  rfl
 refine last_ (i := 9) (N := none) #[true, true, true, true, true, true, true, true, true, true] rfl rfl (one_of HT_.out (by kernel_rfl)) (by decide) (fun K hK => ?_)
 have hs12 : w8.cell? ⟨gb269, 1, none⟩ = some (.slice A0_1 l0_1.length c0_1) := (blk_cell BK269.out 1).trans rfl
 have hfs12 := blk_frozen BK269.out 1
 have hns12_1 := NB270_269.out
 have hms12_1 := NB269_270.out
 refine skip_ (w1 := ?_) (by rfl) rfl ?_ ?_
 rotate_left
 ·go_simp
  rfl
 refine hK.out _ _ ?_
 clear hK K
 refine done_ (done_of HT_.out (by kernel_rfl)) ?_
 have hnb13 := NB269_270.out
 have hnc13 := NB270_269.out
 obtain ⟨hcz14_0, hcz14_1, hcz14_2, hcz14_3, hfz14_0, hfz14_1, hfz14_2, hfz14_3⟩ := zC4 BK269
 obtain ⟨hcz15_0, hcz15_1, hcz15_2, hcz15_3, hfz15_0, hfz15_1, hfz15_2, hfz15_3⟩ := zC4 BK270
 try go_wp2
 refine bodyPost_ret (results_cell_row rfl _ _ gb270 35 #[.slice Ao9 t271.length co9, .slice Ao11 t274.length co11, .int .i64 a0_2, .int .i64 a0_3] (0, 0) _ rfl (zP BK270) Try.underlying35 rfl (by kernel_rfl)) rfl ?_
 exact ⟨_, _, by first | rfl | (simp [errW_none, errW_some] <;> rfl) | (simp [*, errW_none, errW_some] <;> rfl) | (simp [bne, errW_none, errW_some]; done) | (simp [*, bne, errW_none, errW_some]; done), by (with_reducible repeat (first | apply Kd.R_alloc | apply Kd.R_drewN | apply Kd.R_drew)); exact Kd.R_mono (Kd.R_far (p := ⟨gb270, 3, none⟩) (Kd.R_far (p := ⟨gb270, 2, none⟩) (Kd.R_far (p := ⟨gb270, 1, none⟩) (Kd.R_far (p := ⟨gb270, 0, none⟩) (Kd.R_far (p := ⟨gb269, 1, none⟩) (Kd.R_far (p := ⟨gb269, 0, none⟩) (Kd.R_types (Kd.R_types HO273.out BK269.out (by decide)) BK270.out (by decide)) (fun _ hk => hk.1.2) (.slice Ao9 t271.length co9)) (fun _ hk => hk.1.2) (.slice Ao11 t274.length co11)) (fun _ hk => hk.2) (.slice Ao9 t271.length co9)) (fun _ hk => hk.2) (.slice Ao11 t274.length co11)) (fun _ hk => hk.2) (.int .i64 a0_2)) (fun _ hk => hk.2) (.int .i64 a0_3)) (fun _ hk => trivial), by (with_reducible repeat (first | apply Kd.R_alloc | apply Kd.R_drewN | apply Kd.R_drew)); exact Kd.R_mono (Kd.R_far (p := ⟨gb270, 3, none⟩) (Kd.R_far (p := ⟨gb270, 2, none⟩) (Kd.R_far (p := ⟨gb270, 1, none⟩) (Kd.R_far (p := ⟨gb270, 0, none⟩) (Kd.R_far (p := ⟨gb269, 1, none⟩) (Kd.R_far (p := ⟨gb269, 0, none⟩) (Kd.R_types (Kd.R_types HO276.out BK269.out (by decide)) BK270.out (by decide)) (fun _ hk => hk.1.2) (.slice Ao9 t271.length co9)) (fun _ hk => hk.1.2) (.slice Ao11 t274.length co11)) (fun _ hk => hk.2) (.slice Ao9 t271.length co9)) (fun _ hk => hk.2) (.slice Ao11 t274.length co11)) (fun _ hk => hk.2) (.int .i64 a0_2)) (fun _ hk => hk.2) (.int .i64 a0_3)) (fun _ hk => trivial), zB⟩

/-! ### impl_cellAt_1: function 50 -/
theorem impl_cellAt_1.calls (a0_0 : Int) (a0_1 : ByteArray) (a0_2 : Int) (a0_3 : Int) (a0_4 : ByteArray) (gb1 : Nat) (a1_0 : Int) (gb2 : Nat) (a2_0 : ByteArray) (r : Bool) (w : World) (hbx1 : w.heap[gb1]? = some (.cells #[.int .i64 a1_0] 3 (0, 0))) (hbx2 : w.heap[gb2]? = some (.cells #[.string a2_0] 9 (0, 0))) (nb277_278 : gb1 ≠ gb2) (h : impl_cellAt_1.f a0_0 a0_1 a0_2 a0_3 a0_4 a1_0 a2_0 = some r) :
  Calls Try.prog 50 #[.agg #[.int .i64 a0_0, .string a0_1, .int .i64 a0_2, .int .i64 a0_3, .string a0_4], .pointer (some ⟨gb1, 0, none⟩), .pointer (some ⟨gb2, 0, none⟩)] w fun e w' => e = .returned (.bool r) ∧ Below w.heap.size w w' := by
 have hu58 := Try.underlying58
 have BK277 := Aside0.mk hbx1
 clear hbx1
 have BK278 := Aside0.mk hbx2
 clear hbx2
 have NB277_278 := Aside0.mk nb277_278
 have NB278_277 := Aside0.mk (Ne.symm nb277_278)
 clear nb277_278
 have HB := Aside0.mk (Below.refl w.heap.size w)
 rw [impl_cellAt_1.f] at h
 have H := h
 clear h
 replace H := zI H; obtain ⟨c4, H⟩ | ⟨c4, H⟩ := H
 ·have c4b0 := beq_iff_eq.mpr c4
  have c4b1 := bne_eq_false_iff_eq.mpr c4
  clear c4
  obtain rfl := Option.some.inj H
  go_enter Try.func50, Try.ntmps50
  go_wp2_with (first | ((with_reducible refine gate_dst (N := 3) rfl ?_); refine zX (N := 3) (cs := #[.int .i64 a0_0, .string a0_1, .int .i64 a0_2, .int .i64 a0_3, .string a0_4]) (t := 58) ?_; intro gb279 hg w5 hbox hb; have n_ := z10 (zb BK277 hb) (zb BK278 hb) (zs hb) (hbox) (zl hg) (zl hg) (zn BK277 hg) (zm BK277 hg) (zn BK278 hg) (zm BK278 hg); clear BK277 BK278 HB; obtain ⟨BK277, BK278, HB, BK279, GW279, GE279, NB277_279, NB279_277, NB278_279, NB279_278⟩ := n_; clear hb hbox hg; have hnb6 := NB279_277.out; have hnc6 := NB277_279.out; have hnb7 := NB279_278.out; have hnc7 := NB278_279.out; obtain ⟨hcz8_0, hcz8_1, hcz8_2, hcz8_3, hcz8_4, hfz8_0, hfz8_1, hfz8_2, hfz8_3, hfz8_4⟩ := zC5 BK279; have hnb9 := NB277_278.out; have hnc9 := NB278_277.out; obtain ⟨hcz10_0, hfz10_0⟩ := zC1 BK277; obtain ⟨hcz11_0, hfz11_0⟩ := zC1 BK278))
  go_ret
  exact ⟨zE, zB⟩
 ·have c4b0 := beq_eq_false_iff_ne.mpr c4
  have c4b1 := bne_iff_ne.mpr c4
  obtain rfl := Option.some.inj H
  go_enter Try.func50, Try.ntmps50
  go_wp2_with (first | ((with_reducible refine gate_dst (N := 3) rfl ?_); refine zX (N := 3) (cs := #[.int .i64 a0_0, .string a0_1, .int .i64 a0_2, .int .i64 a0_3, .string a0_4]) (t := 58) ?_; intro gb279 hg w12 hbox hb; have n_ := z10 (zb BK277 hb) (zb BK278 hb) (zs hb) (hbox) (zl hg) (zl hg) (zn BK277 hg) (zm BK277 hg) (zn BK278 hg) (zm BK278 hg); clear BK277 BK278 HB; obtain ⟨BK277, BK278, HB, BK279, GW279, GE279, NB277_279, NB279_277, NB278_279, NB279_278⟩ := n_; clear hb hbox hg; have hnb13 := NB279_277.out; have hnc13 := NB277_279.out; have hnb14 := NB279_278.out; have hnc14 := NB278_279.out; obtain ⟨hcz15_0, hcz15_1, hcz15_2, hcz15_3, hcz15_4, hfz15_0, hfz15_1, hfz15_2, hfz15_3, hfz15_4⟩ := zC5 BK279; have hnb16 := NB277_278.out; have hnc16 := NB278_277.out; obtain ⟨hcz17_0, hfz17_0⟩ := zC1 BK277))
  go_ret
  exact ⟨zE, zB⟩

end Go.Proofs.Ytehefologhfdhaa.QFnExactCellPut
