/- Part 8 of what the claim rests on: T9, P2, J3, S2. No condition of its own. -/
import Derived.Test.YtokklkmibjpjnaaGreatBd7
import Derived.Deep.DeepCutAuto
namespace Go.Proofs.YtokklkmibjpjnaaGreat
set_option linter.unusedSimpArgs false
set_option linter.unusedVariables false
attribute [local go_sem] n_lt2 n_lt3 n_lt4 n_le2 n_le3
open Go.RowKit
attribute [local go_sem] Ext.cell Ext.frozen
theorem t9_ad {v : World} {s n : Nat} {A : Option Addr} {zs : List Int} {x : Obj} (h : Sl v s A n zs) : Sl (v.drew.alloc x) s A n zs := (Sl.drew h).alloc x
theorem t9_da {v : World} {s n : Nat} {A : Option Addr} {zs : List Int} {x : Obj} (h : Sl v s A n zs) : Sl (v.alloc x).drew s A n zs := (h.alloc x).drew
set_option maxRecDepth 100000 in
set_option maxHeartbeats 8000000 in
theorem specFolded_good (A : Option Addr) (n c : Nat) (B : Option Addr) (m d : Nat) (i0 t0 l0 l1 l2 : Int) (pl : List Pr) (ql : List Jb) (w : World) (hP : Sl w 2 A n (PR pl)) (hQ : Sl w 5 B m (JB ql)) (hl : pl.length = n) (hr : ql.length = m) (hA : A = none → n = 0 ∧ c = 0) (hB : B = none → m = 0 ∧ d = 0) (L : Option Addr) (ln lc : Nat) (l : List En) (hLS : Sl w 9 L ln (EN l)) (hln : l.length = ln) (hlm : ln ≤ 2000) (hs : staOk ⟨i0, t0, pl, ql, l0, l1, l2⟩ = true) (hg : goodIn ⟨i0, t0, pl, ql, l0, l1, l2⟩ l) (fi ft fh fe fu : Int) (fp : List Pr) (fq : List Jb) (fn fm : Nat) (hf : Hid (fold ⟨i0, t0, pl, ql, l0, l1, l2⟩ l = ⟨fi, ft, fp, fq, fh, fe, fu⟩)) (hfn : Hid (fp.length = fn)) (hfm : Hid (fq.length = fm)) :
    Calls Tryz.prog 59 #[.agg #[.int .i64 i0, .int .i64 t0, .slice A n c, .slice B m d, .int .i64 l0, .int .i64 l1, .int .i64 l2], .slice L ln lc] w (RetStateV w fi ft fh fe fu fn (PR fp) fm (JB fq) (.bool true)) := by
  have hl0 := hl
  have hr0 := hr
  have HP := Lib.hid hP
  have HQ := Lib.hid hQ
  have HA := Lib.hid hA
  have HB := Lib.hid hB
  have hL := Lib.hid hl
  have hR := Lib.hid hr
  have HE := Lib.hid hLS
  have hLN := Lib.hid hln
  have HS := Lib.hid hs
  have HG := Lib.hid hg
  clear hP hQ hA hB hl hr hLS hln hs hg
  have hle := stateB_lens HS.out
  rw [hL.out, hR.out] at hle
  obtain ⟨hn10, hm8⟩ := hle
  have hnm : n ≤ maxLen := by unfold maxLen; omega
  have hmm : m ≤ maxLen := by unfold maxLen; omega
  go_enter Tryz.func59, Tryz.ntmps59
  go_wp2_with fail
  refine calls_named ?_
  rintro v0 hv0
  have f0 : Below w.heap.size w v0 := by rw [hv0]; (repeat' (first | (with_reducible exact Below.refl _ _) | (with_reducible assumption) | (with_reducible refine Below.alloc ?_ ?_ _) | (with_reducible refine Below.drew ?_) | (with_reducible refine Below.setCell ?_ ?_ _) | (with_reducible refine bstep (by assumption) ?_ ?_) | (with_reducible exact Nat.le_refl _) | omega | (simp [*]; done) | (simp [*]; omega)))
  have z0 : w.heap.size + 2 ≤ v0.heap.size := by rw [hv0]; simp [size_set]
  have HP_0 := Lib.hid (HP.out.below f0)
  have HP_lt := Lib.hid (fun hn => HP.out.lt hn)
  have HQ_0 := Lib.hid (HQ.out.below f0)
  have HQ_lt := Lib.hid (fun hn => HQ.out.lt hn)
  have HE_0 := Lib.hid (HE.out.below f0)
  have HE_lt := Lib.hid (fun hn => HE.out.lt hn)
  have Ha_0 : Hid (Blk v0 w.heap.size 37 #[.int .i64 i0, .int .i64 t0, .slice A n c, .slice B m d, .int .i64 l0, .int .i64 l1, .int .i64 l2]) := by rw [hv0]; exact (Blk.new_at _ _ _ _ (by simp)).alloc _
  have Hr_0 : Hid (Blk v0 (w.heap.size + 1) 37 #[.int .i64 0, .int .i64 0, .slice none 0 0, .slice none 0 0, .int .i64 0, .int .i64 0, .int .i64 0]) := by rw [hv0]; exact Blk.new_at _ _ _ _ (by simp)
  clear hv0
  generalize hg1 : w.heap.size + 1 = g1 at *
  have lg1 : w.heap.size < g1 := by omega
  have lgz : g1 < v0.heap.size := by omega
  have nq1x0 : ¬ g1 = w.heap.size := by omega
  have nq0x1 : ¬ w.heap.size = g1 := by omega
  clear hg1
  have lt_a := Ha_0.out.lt
  obtain ⟨r_a0, r_a1, r_a2, r_a3, r_a4, r_a5, r_a6⟩ := bc7 Ha_0.out
  have lt_r := Hr_0.out.lt
  obtain ⟨r_r0, r_r1, r_r2, r_r3, r_r4, r_r5, r_r6⟩ := bc7 Hr_0.out
  obtain ⟨z_r0, z_r1, z_r2, z_r3, z_r4, z_r5, z_r6⟩ := bf7 Hr_0.out
  have cc := specStateOk_any A n c B m d i0 t0 l0 l1 l2 pl ql v0 HP_0.out HQ_0.out hL.out hR.out hnm hmm
  rw [show stateB i0 t0 l0 l1 l2 pl ql = true from HS.out] at cc
  have hln2 : ¬ (2000 : Int) < (ln : Int) := by omega
  refine (cc).mono ?_
  rintro e v1 ⟨rfl, b1⟩
  have f1 := bthen f0 b1
  have z1 := b1.size
  have HP_1 := Lib.hid (HP_0.out.below b1)
  have HQ_1 := Lib.hid (HQ_0.out.below b1)
  have HE_1 := Lib.hid (HE_0.out.below b1)
  have Ha_1 := Lib.hid (Ha_0.out.below b1)
  have Hr_1 := Lib.hid (Hr_0.out.below b1)
  clear lt_a r_a0 r_a1 r_a2 r_a3 r_a4 r_a5 r_a6 lt_r r_r0 r_r1 r_r2 r_r3 r_r4 r_r5 r_r6 z_r0 z_r1 z_r2 z_r3 z_r4 z_r5 z_r6
  clear HP_0 HQ_0 HE_0 Ha_0 Hr_0
  clear cc
  have lt_a := Ha_1.out.lt
  obtain ⟨r_a0, r_a1, r_a2, r_a3, r_a4, r_a5, r_a6⟩ := bc7 Ha_1.out
  have lt_r := Hr_1.out.lt
  obtain ⟨r_r0, r_r1, r_r2, r_r3, r_r4, r_r5, r_r6⟩ := bc7 Hr_1.out
  obtain ⟨z_r0, z_r1, z_r2, z_r3, z_r4, z_r5, z_r6⟩ := bf7 Hr_1.out
  go_wp2_with fail
  refine (l17Copy_any A n c B m d i0 t0 l0 l1 l2 pl ql _ HP_1.out HQ_1.out hL.out hR.out (by omega) (by omega) HA.out HB.out).mono ?_
  rintro e v2 ⟨A5, c5, B5, d5, rfl, R5, R6, hap, b2⟩
  have HAP := Lib.hid hap
  have Lx := Lib.hid R5.lt
  have Ly := Lib.hid R6.lt
  clear hap
  have f2 := bthen f1 b2
  have z2 := b2.size
  have HP_2 := Lib.hid (HP_1.out.below b2)
  have HQ_2 := Lib.hid (HQ_1.out.below b2)
  have HE_2 := Lib.hid (HE_1.out.below b2)
  have Ha_2 := Lib.hid (Ha_1.out.below b2)
  have Hr_2 := Lib.hid (Hr_1.out.below b2)
  clear lt_a r_a0 r_a1 r_a2 r_a3 r_a4 r_a5 r_a6 lt_r r_r0 r_r1 r_r2 r_r3 r_r4 r_r5 r_r6 z_r0 z_r1 z_r2 z_r3 z_r4 z_r5 z_r6
  clear HP_1 HQ_1 HE_1 Ha_1 Hr_1
  have Hx_2 := Lib.hid R5
  clear R5
  have Hy_2 := Lib.hid R6
  clear R6
  have lt_a := Ha_2.out.lt
  obtain ⟨r_a0, r_a1, r_a2, r_a3, r_a4, r_a5, r_a6⟩ := bc7 Ha_2.out
  have lt_r := Hr_2.out.lt
  obtain ⟨r_r0, r_r1, r_r2, r_r3, r_r4, r_r5, r_r6⟩ := bc7 Hr_2.out
  obtain ⟨z_r0, z_r1, z_r2, z_r3, z_r4, z_r5, z_r6⟩ := bf7 Hr_2.out
  go_upto_region 4 with fail
  obtain ⟨v3, hv3⟩ : ∃ x : World, x = (v2.alloc (.cells #[.int .i64 i0, .int .i64 t0, .slice A5 n c5, .slice B5 m d5, .int .i64 l0, .int .i64 l1, .int .i64 l2] 37)) := ⟨_, rfl⟩
  rw [← hv3]
  have f3 : Below w.heap.size w v3 := by rw [hv3]; (repeat' (first | (with_reducible exact Below.refl _ _) | (with_reducible assumption) | (with_reducible refine Below.alloc ?_ ?_ _) | (with_reducible refine Below.drew ?_) | (with_reducible refine Below.setCell ?_ ?_ _) | (with_reducible refine bstep (by assumption) ?_ ?_) | (with_reducible exact Nat.le_refl _) | omega | (simp [*]; done) | (simp [*]; omega)))
  have z3 : v2.heap.size + 1 ≤ v3.heap.size := by rw [hv3]; simp [size_set]
  have HP_3 : Hid (Sl v3 2 A n (PR pl)) := by rw [hv3]; exact (HP_2.out).alloc _
  have HQ_3 : Hid (Sl v3 5 B m (JB ql)) := by rw [hv3]; exact (HQ_2.out).alloc _
  have HE_3 : Hid (Sl v3 9 L ln (EN l)) := by rw [hv3]; exact (HE_2.out).alloc _
  have Ha_3 : Hid (Blk v3 w.heap.size 37 #[.int .i64 i0, .int .i64 t0, .slice A n c, .slice B m d, .int .i64 l0, .int .i64 l1, .int .i64 l2]) := by rw [hv3]; exact (Ha_2.out).alloc _
  have Hr_3 : Hid (Blk v3 g1 37 #[.int .i64 0, .int .i64 0, .slice none 0 0, .slice none 0 0, .int .i64 0, .int .i64 0, .int .i64 0]) := by rw [hv3]; exact (Hr_2.out).alloc _
  have Hx_3 : Hid (Row v3 v1.heap.size 106 2 A5 n c5 (PR pl)) := by rw [hv3]; exact (Hx_2.out).alloc _
  have Hy_3 : Hid (Row v3 v1.heap.size 71 5 B5 m d5 (JB ql)) := by rw [hv3]; exact (Hy_2.out).alloc _
  have Ho_3 : Hid (Blk v3 v2.heap.size 37 #[.int .i64 i0, .int .i64 t0, .slice A5 n c5, .slice B5 m d5, .int .i64 l0, .int .i64 l1, .int .i64 l2]) := by rw [hv3]; exact (Blk.new_at _ _ _ _ (by simp [size_set]))
  clear lt_a r_a0 r_a1 r_a2 r_a3 r_a4 r_a5 r_a6 lt_r r_r0 r_r1 r_r2 r_r3 r_r4 r_r5 r_r6 z_r0 z_r1 z_r2 z_r3 z_r4 z_r5 z_r6
  clear hv3 HP_2 HQ_2 HE_2 Ha_2 Hr_2 Hx_2 Hy_2
  obtain ⟨gO, hgO⟩ : ∃ g, g = v2.heap.size := ⟨_, rfl⟩
  have K0 := Lib.hid (show Blk v3 gO 37 #[.int .i64 i0, .int .i64 t0, .slice A5 n c5, .slice B5 m d5, .int .i64 l0, .int .i64 l1, .int .i64 l2] by rw [hgO]; exact Ho_3.out)
  have N0 := Lib.hid (show (∀ a, A5 = some a → a.block ≠ gO) ∧ (∀ a, B5 = some a → a.block ≠ gO) ∧ (∀ a, A5 = some a → a.block ≠ g1) ∧ (∀ a, B5 = some a → a.block ≠ g1) ∧ (∀ a b, A5 = some a → B5 = some b → a.block ≠ b.block) from ⟨fun a ha => by rw [hgO]; have := Lx.out a ha; omega, fun a ha => by rw [hgO]; have := Ly.out a ha; omega, fun a ha => by have := Hx_3.out.ge a ha; omega, fun a ha => by have := Hy_3.out.ge a ha; omega, HAP.out⟩)
  have R0 := Lib.hid (Hx_3.out.mono (show w.heap.size ≤ _ by omega))
  have R1 := Lib.hid (Hy_3.out.mono (show w.heap.size ≤ _ by omega))
  have KR := Hr_3
  have F0 := Lib.hid f3
  have g1O : g1 < gO := by rw [hgO]; omega
  have wg1 : w.heap.size < g1 := by omega
  try rw [← hgO]
  clear hgO Hx_3 Hy_3 Ho_3 Ha_3 HP_3 HQ_3 HP HQ HA HB hL hR Lx Ly HAP HP_lt HQ_lt
  go_wp2_with fail
  go_loopw [7] (fun iv wr => ∃ (j : Nat) (Ao : Option Addr) (no co : Nat) (Bo : Option Addr) (mo dd : Nat) (ci ct ch ce cu : Int) (cp : List Pr) (cq : List Jb), j ≤ ln ∧ iv = .int .i64 j ∧ Hid (fold ⟨i0, t0, pl, ql, l0, l1, l2⟩ (l.take j) = ⟨ci, ct, cp, cq, ch, ce, cu⟩) ∧ Hid (cp.length = no) ∧ Hid (cq.length = mo) ∧ Hid (Blk wr gO 37 #[.int .i64 ci, .int .i64 ct, .slice Ao no co, .slice Bo mo dd, .int .i64 ch, .int .i64 ce, .int .i64 cu]) ∧ Hid (Row wr w.heap.size 106 2 Ao no co (PR cp)) ∧ Hid (Row wr w.heap.size 71 5 Bo mo dd (JB cq)) ∧ Hid ((∀ a, Ao = some a → a.block ≠ gO) ∧ (∀ a, Bo = some a → a.block ≠ gO) ∧ (∀ a, Ao = some a → a.block ≠ g1) ∧ (∀ a, Bo = some a → a.block ≠ g1) ∧ (∀ a b, Ao = some a → Bo = some b → a.block ≠ b.block)) ∧ Hid (Blk wr g1 37 #[.int .i64 0, .int .i64 0, .slice none 0 0, .slice none 0 0, .int .i64 0, .int .i64 0, .int .i64 0]) ∧ Hid (Below w.heap.size w wr)) (fun iv _ => ln - (intOf iv).toNat)
  case atStart => exact ⟨0, A5, n, c5, B5, m, d5, i0, t0, l0, l1, l2, pl, ql, Nat.zero_le _, rfl, Lib.hid rfl, Lib.hid hl0, Lib.hid hr0, K0, R0, R1, N0, KR, F0⟩
  case round =>
    clear K0 R0 R1 N0 KR F0
    obtain ⟨j, Ao, no, co, Bo, mo, dd, ci, ct, ch, ce, cu, cp, cq, hj, rfl, HF, HN, HM, KO, RP, RQ, NN, KR, FF⟩ := hrel
    by_cases hjl : j < ln
    · have hjl2 : (j : Int) < (ln : Int) := by omega
      obtain ⟨hgn, hgs⟩ := good_at HG.out (j := j) (by rw [hLN.out]; exact hjl)
      rw [HF.out] at hgn hgs
      have hso : stateB ci ct ch ce cu cp cq = true := by
        have := fold_ok (s := ⟨i0, t0, pl, ql, l0, l1, l2⟩) HS.out (good_take HG.out j).1
        rw [HF.out] at this
        exact this
      have hle := stateB_lens hso
      rw [HN.out, HM.out] at hle
      obtain ⟨hno, hmo⟩ := hle
      have hi0 := stateB_i hso
      obtain ⟨en, hen⟩ : ∃ en, l.getD j default = en := ⟨_, rfl⟩
      rw [hen] at hgn hgs
      have hES := HE.out.below FF.out
      obtain ⟨bl, ol, hLA, -, -⟩ := hES.at_ (by omega)
      subst hLA
      obtain ⟨hbl, hec⟩ := sl_entries hES (by omega)
      replace hec := hec j hjl
      rw [hen] at hec
      obtain ⟨ex, et, ec, es, ek, ea, eb, eg, eh⟩ := en
      simp only at hec
      unfold stNext at hgn
      simp only at hgn
      have ec0 := hec 0 (by decide)
      have ec1 := hec 1 (by decide)
      have ec2 := hec 2 (by decide)
      have ec3 := hec 3 (by decide)
      have ec4 := hec 4 (by decide)
      have ec5 := hec 5 (by decide)
      have ec6 := hec 6 (by decide)
      have ec7 := hec 7 (by decide)
      have ec8 := hec 8 (by decide)
      simp only [Nat.add_zero, List.getD_cons_zero, List.getD_cons_succ] at ec0 ec1 ec2 ec3 ec4 ec5 ec6 ec7 ec8
      clear hec hES
      have HGN := Lib.hid hgn
      have HGS := Lib.hid hgs
      have HSO := Lib.hid hso
      clear hgn hgs hen hso
      obtain ⟨⟨p2, q2, h2, e2, u2⟩, hE⟩ : ∃ R, appE ch ce cu cp cq ex et ec es ek ea eb eg eh = R := ⟨_, rfl⟩
      obtain ⟨n2, hn2⟩ : ∃ n2, p2.length = n2 := ⟨_, rfl⟩
      obtain ⟨m2, hm2⟩ : ∃ m2, q2.length = m2 := ⟨_, rfl⟩
      have hai : AppIs ci ct ch ce cu cp cq ex et ec es ek ea eb eg eh ex et h2 e2 u2 p2 q2 n2 m2 true := ⟨by unfold appR; rw [if_pos HSO.out, if_pos HGN.out, hE], hn2, hm2⟩
      have HFN : Hid (fold ⟨i0, t0, pl, ql, l0, l1, l2⟩ (l.take (j + 1)) = ⟨ex, et, p2, q2, h2, e2, u2⟩) := Lib.hid (by rw [HGS.out]; unfold stApp; simp only; rw [hE])
      have HN2 := Lib.hid hn2
      have HM2 := Lib.hid hm2
      have HAI := Lib.hid hai
      clear hE hn2 hm2 hai
      have lt_o := KO.out.lt
      obtain ⟨r_o0, r_o1, r_o2, r_o3, r_o4, r_o5, r_o6⟩ := bc7 KO.out
      have hjn0 : ¬ (ln : Int) ≤ (j : Int) := by omega
      go_upto_region 7 with fail
      go_cut [8, 9] (fun sx bx wx => ∃ (g : Nat) (A6 : Option Addr) (c6 : Nat) (B6 : Option Addr) (d6 : Nat), sx = .pointer (some ⟨g, 0, none⟩) ∧ bx = .bool true ∧ wr.heap.size ≤ g ∧ Hid (Blk wx g 37 #[.int .i64 ex, .int .i64 et, .slice A6 n2 c6, .slice B6 m2 d6, .int .i64 h2, .int .i64 e2, .int .i64 u2]) ∧ Hid (Row wx wr.heap.size 106 2 A6 n2 c6 (PR p2)) ∧ Hid (Row wx wr.heap.size 71 5 B6 m2 d6 (JB q2)) ∧ Hid (∀ a b, A6 = some a → B6 = some b → a.block ≠ b.block) ∧ Hid (Below wr.heap.size wr wx))
      case first =>
        have hS0 : ∀ b o, b < wr.heap.size → wr.cell? ⟨b, o, none⟩ = wr.cell? ⟨b, o, none⟩ := fun b o hb => rfl
        go_region_held_law (fun w' => ∀ b o, b < wr.heap.size → w'.cell? ⟨b, o, none⟩ = wr.cell? ⟨b, o, none⟩) (repeat' (first | with_reducible assumption | with_reducible exact Nat.le_refl _ | with_reducible exact hS0 | with_reducible refine hl_drew ?_ | with_reducible refine hl_alloc ?_ ?_ _ | with_reducible refine hl_set7 ?_ ?_ _ _ _ _ _ _ _)) (first | (go_at_call 7; refine (specApplied_g Ao no co Bo mo dd ci ct ch ce cu cp cq ex et ec es ek ea eb eg eh _ (by first | with_reducible exact RP.out.sl | with_reducible exact Sl.drew RP.out.sl | with_reducible exact Sl.alloc RP.out.sl _ | with_reducible exact t9_da RP.out.sl | with_reducible exact t9_ad RP.out.sl) (by first | with_reducible exact RQ.out.sl | with_reducible exact Sl.drew RQ.out.sl | with_reducible exact Sl.alloc RQ.out.sl _ | with_reducible exact t9_da RQ.out.sl | with_reducible exact t9_ad RQ.out.sl) HN.out HM.out (by unfold maxLen; omega) (by unfold maxLen; omega) (row_nil RP.out) (row_nil RQ.out) ex et h2 e2 u2 p2 q2 n2 m2 true HAI.out).mono ?_; rintro e u1 ⟨A6, c6, B6, d6, rfl, R6, R7, hap2, b1_⟩; (first | (have KB : Blk u1 wr.heap.size 37 #[.int .i64 0, .int .i64 0, .slice none 0 0, .slice none 0 0, .int .i64 0, .int .i64 0, .int .i64 0] := by with_reducible exact t_below2 b1_ (Blk.new_at _ _ _ _ rfl)) | (have KB : Blk u1 wr.heap.size 37 #[.int .i64 0, .int .i64 0, .slice none 0 0, .slice none 0 0, .int .i64 0, .int .i64 0, .int .i64 0] := by with_reducible exact t_below2 b1_ (Blk.drew (Blk.new_at _ _ _ _ rfl))) | (have KB : Blk u1 wr.heap.size 37 #[.int .i64 0, .int .i64 0, .slice none 0 0, .slice none 0 0, .int .i64 0, .int .i64 0, .int .i64 0] := by with_reducible exact t_below2 b1_ (Blk.new_at _ _ _ _ (t_drew_size _))) | skip); have E1 : Below wr.heap.size wr u1 := (by first | with_reducible exact b1_ | with_reducible exact tb_dr b1_ | with_reducible exact tb_al b1_ | with_reducible exact tb_da b1_ | with_reducible exact tb_ad b1_); have hS1 : ∀ b o, b < wr.heap.size → u1.cell? ⟨b, o, none⟩ = wr.cell? ⟨b, o, none⟩ := fun b o hb => E1.cell (p := ⟨b, o, none⟩) hb; have z1_ := E1.size; (try (have kb0 := KB.cell 0)); (try (have kf0 := KB.frozen 0)); (try (have kb1 := KB.cell 1)); (try (have kf1 := KB.frozen 1)); (try (have kb2 := KB.cell 2)); (try (have kf2 := KB.frozen 2)); (try (have kb3 := KB.cell 3)); (try (have kf3 := KB.frozen 3)); (try (have kb4 := KB.cell 4)); (try (have kf4 := KB.frozen 4)); (try (have kb5 := KB.cell 5)); (try (have kf5 := KB.frozen 5)); (try (have kb6 := KB.cell 6)); (try (have kf6 := KB.frozen 6)); (try (have kbl := KB.lt))))
        all_goals
          have s1 := b1_.size
          have gP := R6.ge
          have gQ := R7.ge
          (try simp only [t_size_alloc, ← t_drew_size] at s1)
          (try simp only [t_size_alloc, ← t_drew_size] at gP)
          (try simp only [t_size_alloc, ← t_drew_size] at gQ)
          have RP6 := R6.mono (show wr.heap.size ≤ _ from (by (try simp only [t_size_alloc, ← t_drew_size]); omega))
          have RQ6 := R7.mono (show wr.heap.size ≤ _ from (by (try simp only [t_size_alloc, ← t_drew_size]); omega))
          go_wp2_with fail
          go_meet
          first
            | (with_reducible refine ⟨u1.heap.size, A6, c6, B6, d6, rfl, rfl, ?_, ?_, ?_, ?_, ?_, ?_⟩
               · omega
               · exact Lib.hid (Blk.new_at _ _ _ _ rfl)
               · exact Lib.hid (RP6.alloc _)
               · exact Lib.hid (RQ6.alloc _)
               · exact Lib.hid hap2
               · exact Lib.hid (E1.alloc z1_ _))
            | (with_reducible refine ⟨wr.heap.size, A6, c6, B6, d6, rfl, rfl, ?_, ?_, ?_, ?_, ?_, ?_⟩
               · omega
               · exact Lib.hid (((((((KB.set_ 0 _).set_ 1 _).set_ 2 _).set_ 3 _).set_ 4 _).set_ 5 _).set_ 6 _)
               · exact Lib.hid (row_far7 RP6 (fun a ha => by have h0 := gP a ha; omega) _ _ _ _ _ _ _)
               · exact Lib.hid (row_far7 RQ6 (fun a ha => by have h0 := gQ a ha; omega) _ _ _ _ _ _ _)
               · exact Lib.hid hap2
               · exact Lib.hid (below_far7 E1 (Nat.le_refl _) _ _ _ _ _ _ _))
      case rest =>
        obtain ⟨gn, A6, c6, B6, d6, rfl, rfl, hgn2, KN, R6, R7, HAP2, E1⟩ := hcut
        rename World => u1
        clear lt_o r_o0 r_o1 r_o2 r_o3 r_o4 r_o5 r_o6
        clear ec0 ec1 ec2 ec3 ec4 ec5 ec6 ec7 ec8
        have lgo := KO.out.lt
        have lgr := KR.out.lt
        have hF2 := FF.out.size
        have KO3 := Lib.hid (KO.out.below E1.out)
        have KR3 := Lib.hid (KR.out.below E1.out)
        have FF3 := Lib.hid (bthen FF.out E1.out)
        clear KO KR RP RQ FF
        have lt_o := KO3.out.lt
        have r_o0 : u1.cell? ⟨gO, 0, none⟩ = some (.int .i64 ci) := KO3.out.cell 0
        have z_o0 := KO3.out.frozen 0
        have r_o1 : u1.cell? ⟨gO, 1, none⟩ = some (.int .i64 ct) := KO3.out.cell 1
        have z_o1 := KO3.out.frozen 1
        have r_o2 : u1.cell? ⟨gO, 2, none⟩ = some (.slice Ao no co) := KO3.out.cell 2
        have z_o2 := KO3.out.frozen 2
        have r_o3 : u1.cell? ⟨gO, 3, none⟩ = some (.slice Bo mo dd) := KO3.out.cell 3
        have z_o3 := KO3.out.frozen 3
        have r_o4 : u1.cell? ⟨gO, 4, none⟩ = some (.int .i64 ch) := KO3.out.cell 4
        have z_o4 := KO3.out.frozen 4
        have r_o5 : u1.cell? ⟨gO, 5, none⟩ = some (.int .i64 ce) := KO3.out.cell 5
        have z_o5 := KO3.out.frozen 5
        have r_o6 : u1.cell? ⟨gO, 6, none⟩ = some (.int .i64 cu) := KO3.out.cell 6
        have z_o6 := KO3.out.frozen 6
        have lt_n := KN.out.lt
        obtain ⟨r_n0, r_n1, r_n2, r_n3, r_n4, r_n5, r_n6⟩ := bc7 KN.out
        have nno : ¬ gn = gO := by omega
        have non : ¬ gO = gn := by omega
        go_wp2
        refine ⟨⟨j + 1, A6, n2, c6, B6, m2, d6, ex, et, h2, e2, u2, p2, q2, by omega, by go_num, HFN, HN2, HM2, Lib.hid (((((((KO3.out.set_ 0 _).set_ 1 _).set_ 2 _).set_ 3 _).set_ 4 _).set_ 5 _).set_ 6 _), Lib.hid (row_far7 (R6.out.mono hF2) (fun a ha => by have := R6.out.ge a ha; omega) _ _ _ _ _ _ _), Lib.hid (row_far7 (R7.out.mono hF2) (fun a ha => by have := R7.out.ge a ha; omega) _ _ _ _ _ _ _), Lib.hid ⟨fun a ha => by have := R6.out.ge a ha; omega, fun a ha => by have := R7.out.ge a ha; omega, fun a ha => by have := R6.out.ge a ha; omega, fun a ha => by have := R7.out.ge a ha; omega, HAP2.out⟩, Lib.hid (blk_far7 KR3.out (by omega) _ _ _ _ _ _ _), Lib.hid (below_far7 FF3.out (by omega) _ _ _ _ _ _ _)⟩, by simp [intOf]; omega⟩
    · have hjn : j = ln := by omega
      subst hjn
      have hfe : (⟨ci, ct, cp, cq, ch, ce, cu⟩ : Sta) = ⟨fi, ft, fp, fq, fh, fe, fu⟩ := by rw [← HF.out, ← hf.out, List.take_of_length_le (by rw [hLN.out]; exact Nat.le_refl _)]
      injection hfe with z1 z2 z3 z4 z5 z6 z7
      subst z1 z2 z3 z4 z5 z6 z7
      have lt_o := KO.out.lt
      obtain ⟨r_o0, r_o1, r_o2, r_o3, r_o4, r_o5, r_o6⟩ := bc7 KO.out
      have lt_r := KR.out.lt
      have r_r0 : wr.cell? ⟨g1, 0, none⟩ = some (.int .i64 0) := KR.out.cell 0
      have z_r0 := KR.out.frozen 0
      have r_r1 : wr.cell? ⟨g1, 1, none⟩ = some (.int .i64 0) := KR.out.cell 1
      have z_r1 := KR.out.frozen 1
      have r_r2 : wr.cell? ⟨g1, 2, none⟩ = some (.slice none 0 0) := KR.out.cell 2
      have z_r2 := KR.out.frozen 2
      have r_r3 : wr.cell? ⟨g1, 3, none⟩ = some (.slice none 0 0) := KR.out.cell 3
      have z_r3 := KR.out.frozen 3
      have r_r4 : wr.cell? ⟨g1, 4, none⟩ = some (.int .i64 0) := KR.out.cell 4
      have z_r4 := KR.out.frozen 4
      have r_r5 : wr.cell? ⟨g1, 5, none⟩ = some (.int .i64 0) := KR.out.cell 5
      have z_r5 := KR.out.frozen 5
      have r_r6 : wr.cell? ⟨g1, 6, none⟩ = some (.int .i64 0) := KR.out.cell 6
      have z_r6 := KR.out.frozen 6
      have ngo : ¬ gO = g1 := by omega
      have ngr : ¬ g1 = gO := by omega
      go_wp21
      refine bodyPost_ret (v := .tuple #[.agg #[.int .i64 ci, .int .i64 ct, .slice Ao no co, .slice Bo mo dd, .int .i64 ch, .int .i64 ce, .int .i64 cu], .bool true]) (by simp [results, Tryz.results59, go_sem, *]) rfl ?_
      exact RetStateV.mk (hfn.out.symm.trans HN.out) (hfm.out.symm.trans HM.out) (row_far7 RP.out NN.out.2.2.1 _ _ _ _ _ _ _) (row_far7 RQ.out NN.out.2.2.2.1 _ _ _ _ _ _ _) NN.out.2.2.2.2 (below_far7 FF.out (by omega) _ _ _ _ _ _ _)
set_option maxRecDepth 100000 in
set_option maxHeartbeats 4000000 in
theorem w6State_good (L : Option Addr) (ln lc : Nat) (l : List En) (w : World) (hLS : Sl w 9 L ln (EN l)) (hln : l.length = ln) (hlm : ln ≤ 2000) (hg : goodIn sta0 l) (fi ft fh fe fu : Int) (fp : List Pr) (fq : List Jb) (fn fm : Nat) (hf : Hid (fold sta0 l = ⟨fi, ft, fp, fq, fh, fe, fu⟩)) (hfn : Hid (fp.length = fn)) (hfm : Hid (fq.length = fm)) :
    Calls Tryz.prog 24 #[.slice L ln lc] w (RetState w fi ft fh fe fu fn (PR fp) fm (JB fq)) := by
  have HE := Lib.hid hLS
  clear hLS
  go_enter Tryz.func24, Tryz.ntmps24
  go_wp2_with fail
  refine calls_named ?_
  rintro v0 hv0
  have f0 : Below w.heap.size w v0 := by rw [hv0]; (repeat' (first | (with_reducible exact Below.refl _ _) | (with_reducible assumption) | (with_reducible refine Below.alloc ?_ ?_ _) | (with_reducible refine Below.drew ?_) | (with_reducible refine Below.setCell ?_ ?_ _) | (with_reducible refine bstep (by assumption) ?_ ?_) | (with_reducible exact Nat.le_refl _) | omega | (simp [*]; done) | (simp [*]; omega)))
  have z0 : w.heap.size + 1 ≤ v0.heap.size := by rw [hv0]; simp [size_set]
  have HE_0 := Lib.hid (HE.out.below f0)
  have HE_lt := Lib.hid (fun hn => HE.out.lt hn)
  have Hr_0 : Hid (Blk v0 w.heap.size 37 #[.int .i64 0, .int .i64 0, .slice none 0 0, .slice none 0 0, .int .i64 0, .int .i64 0, .int .i64 0]) := by rw [hv0]; exact Blk.new_at _ _ _ _ (by simp)
  clear hv0
  have lt_r := Hr_0.out.lt
  obtain ⟨r_r0, r_r1, r_r2, r_r3, r_r4, r_r5, r_r6⟩ := bc7 Hr_0.out
  obtain ⟨z_r0, z_r1, z_r2, z_r3, z_r4, z_r5, z_r6⟩ := bf7 Hr_0.out
  refine (specNewState_any v0).mono ?_
  rintro e v1 ⟨rfl, b1⟩
  have f1 := bthen f0 b1
  have z1 := b1.size
  have HE_1 := Lib.hid (HE_0.out.below b1)
  have Hr_1 := Lib.hid (Hr_0.out.below b1)
  clear lt_r r_r0 r_r1 r_r2 r_r3 r_r4 r_r5 r_r6 z_r0 z_r1 z_r2 z_r3 z_r4 z_r5 z_r6
  clear HE_0 Hr_0
  have lt_r := Hr_1.out.lt
  obtain ⟨r_r0, r_r1, r_r2, r_r3, r_r4, r_r5, r_r6⟩ := bc7 Hr_1.out
  obtain ⟨z_r0, z_r1, z_r2, z_r3, z_r4, z_r5, z_r6⟩ := bf7 Hr_1.out
  have cc := specFolded_good none 0 0 none 0 0 0 0 0 0 0 [] [] v1 (Sl.nil _ _ _) (Sl.nil _ _ _) rfl rfl (fun _ => ⟨rfl, rfl⟩) (fun _ => ⟨rfl, rfl⟩) L ln lc l HE_1.out hln hlm sta0_ok hg fi ft fh fe fu fp fq fn fm hf hfn hfm
  go_wp2_with fail
  refine cc.mono ?_
  rintro e v2 ⟨A5, c5, B5, d5, rfl, R5, R6, hap, b2⟩
  clear cc
  have HAP := Lib.hid hap
  clear hap
  have f2 := bthen f1 b2
  have z2 := b2.size
  have HE_2 := Lib.hid (HE_1.out.below b2)
  have Hr_2 := Lib.hid (Hr_1.out.below b2)
  clear lt_r r_r0 r_r1 r_r2 r_r3 r_r4 r_r5 r_r6 z_r0 z_r1 z_r2 z_r3 z_r4 z_r5 z_r6
  clear HE_1 Hr_1
  have Hx_2 := Lib.hid R5
  clear R5
  have Hy_2 := Lib.hid R6
  clear R6
  have lt_r := Hr_2.out.lt
  obtain ⟨r_r0, r_r1, r_r2, r_r3, r_r4, r_r5, r_r6⟩ := bc7 Hr_2.out
  obtain ⟨z_r0, z_r1, z_r2, z_r3, z_r4, z_r5, z_r6⟩ := bf7 Hr_2.out
  go_upto_region 2 with fail
  obtain ⟨v3, hv3⟩ : ∃ x : World, x = (v2.alloc (.cells #[.int .i64 fi, .int .i64 ft, .slice A5 fn c5, .slice B5 fm d5, .int .i64 fh, .int .i64 fe, .int .i64 fu] 37)) := ⟨_, rfl⟩
  rw [← hv3]
  have f3 : Below w.heap.size w v3 := by rw [hv3]; (repeat' (first | (with_reducible exact Below.refl _ _) | (with_reducible assumption) | (with_reducible refine Below.alloc ?_ ?_ _) | (with_reducible refine Below.drew ?_) | (with_reducible refine Below.setCell ?_ ?_ _) | (with_reducible refine bstep (by assumption) ?_ ?_) | (with_reducible exact Nat.le_refl _) | omega | (simp [*]; done) | (simp [*]; omega)))
  have z3 : v2.heap.size + 1 ≤ v3.heap.size := by rw [hv3]; simp [size_set]
  have HE_3 : Hid (Sl v3 9 L ln (EN l)) := by rw [hv3]; exact (HE_2.out).alloc _
  have Hr_3 : Hid (Blk v3 w.heap.size 37 #[.int .i64 0, .int .i64 0, .slice none 0 0, .slice none 0 0, .int .i64 0, .int .i64 0, .int .i64 0]) := by rw [hv3]; exact (Hr_2.out).alloc _
  have Hx_3 : Hid (Row v3 v1.heap.size 106 2 A5 fn c5 (PR fp)) := by rw [hv3]; exact (Hx_2.out).alloc _
  have Hy_3 : Hid (Row v3 v1.heap.size 71 5 B5 fm d5 (JB fq)) := by rw [hv3]; exact (Hy_2.out).alloc _
  have Hz_3 : Hid (Blk v3 v2.heap.size 37 #[.int .i64 fi, .int .i64 ft, .slice A5 fn c5, .slice B5 fm d5, .int .i64 fh, .int .i64 fe, .int .i64 fu]) := by rw [hv3]; exact (Blk.new_at _ _ _ _ (by simp [size_set]))
  clear lt_r r_r0 r_r1 r_r2 r_r3 r_r4 r_r5 r_r6 z_r0 z_r1 z_r2 z_r3 z_r4 z_r5 z_r6
  clear hv3 HE_2 Hr_2 Hx_2 Hy_2
  have lt_r := Hr_3.out.lt
  obtain ⟨r_r0, r_r1, r_r2, r_r3, r_r4, r_r5, r_r6⟩ := bc7 Hr_3.out
  have lt_z := Hz_3.out.lt
  obtain ⟨r_z0, r_z1, r_z2, r_z3, r_z4, r_z5, r_z6⟩ := bc7 Hz_3.out
  obtain ⟨z_r0, z_r1, z_r2, z_r3, z_r4, z_r5, z_r6⟩ := bf7 Hr_3.out
  have nx : ∀ a, A5 = some a → a.block ≠ w.heap.size := fun a ha => by have := Hx_3.out.ge a ha; omega
  have ny : ∀ a, B5 = some a → a.block ≠ w.heap.size := fun a ha => by have := Hy_3.out.ge a ha; omega
  have HNN := Lib.hid (And.intro nx ny)
  clear nx ny
  go_wp21
  refine bodyPost_ret (v := .agg #[.int .i64 fi, .int .i64 ft, .slice A5 fn c5, .slice B5 fm d5, .int .i64 fh, .int .i64 fe, .int .i64 fu]) (by simp [results, Tryz.results24, go_sem, *]) rfl ?_
  exact ⟨A5, c5, B5, d5, rfl, row_far7 (Hx_3.out.mono (by omega)) HNN.out.1 _ _ _ _ _ _ _, row_far7 (Hy_3.out.mono (by omega)) HNN.out.2 _ _ _ _ _ _ _, HAP.out, by (repeat' (first | (with_reducible exact Below.refl _ _) | (with_reducible assumption) | (with_reducible refine Below.alloc ?_ ?_ _) | (with_reducible refine Below.drew ?_) | (with_reducible refine Below.setCell ?_ ?_ _) | (with_reducible refine bstep (by assumption) ?_ ?_) | (with_reducible exact Nat.le_refl _) | omega | (simp [*]; done) | (simp [*]; omega)))⟩
end Go.Proofs.YtokklkmibjpjnaaGreat
namespace Go.Proofs.YtokklkmibjpjnaaGreat
set_option linter.unusedSimpArgs false
set_option linter.unusedVariables false
attribute [local go_sem] n_lt2 n_lt3 n_lt4 n_le2 n_le3
open Go.RowKit

def samePairsB (a b : List Pr) : Bool := pairsB a && (pairsB b && eqL (PR a) (PR b))
attribute [local go_sem] Ext.cell Ext.frozen


set_option maxHeartbeats 2000000 in
theorem specSamePairs_any (A B : Option Addr) (n m cap cap' : Nat) (l r : List Pr) (w : World) (hS : Sl w 2 A n (PR l)) (hT : Sl w 2 B m (PR r)) (hl : l.length = n) (hr : r.length = m) (hn : n ≤ maxLen) (hm : m ≤ maxLen) :
    Calls Tryz.prog 57 #[.slice A n cap, .slice B m cap'] w fun e' w' => e' = .returned (.bool (samePairsB l r)) ∧ Below w.heap.size w w' := by
  have c1 := specPairsOk_any A n cap l w hS hl hn
  by_cases hpa : pairsB l = true
  · rw [hpa] at c1
    by_cases hpb : pairsB r = true
    · have hv : samePairsB l r = eqL (PR l) (PR r) := by simp [samePairsB, hpa, hpb]
      rw [hv]
      by_cases hnm : n = m
      · subst hnm
        go_enter Tryz.func57, Tryz.ntmps57
        go_wp2_with fail
        refine c1.mono ?_
        rintro e w1 ⟨rfl, b1⟩
        have c2 := specPairsOk_any B n cap' r w1 (hT.below b1) hr hm
        rw [hpb] at c2
        go_wp2_with fail
        refine c2.mono ?_
        rintro e w2 ⟨rfl, b2⟩
        have F0 := bthen b1 b2
        have HS := Lib.hid (hS.below F0)
        have HT := Lib.hid (hT.below F0)
        clear hS hT c1 c2 hpa hpb hv
        clear b1 b2
        have hfin : ∀ w', Below w2.heap.size w2 w' → Below w.heap.size w w' := fun w' h => bthen F0 h
        unfold maxLen at hn hm
        go_wp2
        go_loopw [5] (fun i wr => ∃ (k : Nat), k ≤ n ∧ i = .int .i64 k ∧ Below w2.heap.size w2 wr ∧ Hid (∀ j, j < k * 2 → (PR l).getD j 0 = (PR r).getD j 0)) (fun i _ => n - (intOf i).toNat)
        case atStart => exact ⟨0, Nat.zero_le _, rfl, Below.refl _ _, fun j hj => absurd hj (by omega)⟩
        case round =>
          obtain ⟨k, hk, rfl, hbl, hall⟩ := hrel
          by_cases hlt : k < n
          · obtain ⟨b, off, rfl, hb, hcell⟩ := HS.out.at_ (by omega)
            obtain ⟨b', off', rfl, hb', hcell'⟩ := HT.out.at_ (by omega)
            have h0 := hcell (k * 2) (by omega)
            have h1 := hcell (k * 2 + 1) (by omega)
            have p0 := hcell' (k * 2) (by omega)
            have p1 := hcell' (k * 2 + 1) (by omega)
            rw [← hbl.cell (by exact hb)] at h0 h1
            rw [← hbl.cell (by exact hb')] at p0 p1
            simp only [← Nat.add_assoc] at h0 h1 p0 p1
            clear hcell hcell'
            generalize hx0 : (PR l).getD (k * 2) 0 = x0 at h0
            generalize hx1 : (PR l).getD (k * 2 + 1) 0 = x1 at h1
            generalize hy0 : (PR r).getD (k * 2) 0 = y0 at p0
            generalize hy1 : (PR r).getD (k * 2 + 1) 0 = y1 at p1
            have HX := Lib.hid (And.intro (And.intro hx0 hx1) (And.intro hy0 hy1))
            clear hx0 hy0 hx1 hy1
            have hbr : b < wr.heap.size := Nat.lt_of_lt_of_le hb hbl.size
            have hbr' : b' < wr.heap.size := Nat.lt_of_lt_of_le hb' hbl.size
            have hk2 : (k : Int) < (n : Int) := by omega
            have hcs : (¬ x0 = y0) ∨ (x0 = y0 ∧ ¬ x1 = y1) ∨ (x0 = y0 ∧ x1 = y1) := by omega
            rcases hcs with ⟨d0⟩ | ⟨d0, d1⟩ | ⟨d0, d1⟩
            · have hq' : (x0 == y0) = false := by simpa using d0
              go_wp2
              ((refine wp_region_ext (by kernel_rfl) (by kernel_rfl) ?_); (repeat (any_goals (first | go_big_quiet_step (fail) | (refine wpQuiet_step (fun K hK => ?_); go_simp; split <;> (refine hK _ ?_; clear hK K)) | quiet_step (fail)))); (all_goals (refine wpQuiet_nil ?_; rintro _ ⟨z, rfl⟩; have hb' := z.h; generalize z.w = w1 at hb' ⊢; clear z; (first | (have hb2 := bstep hb' hb hb.size; clear hb' hcb hfb hz1 hz2 hz3 hz4 hb; have hb := hb2; clear hb2) | (have hb := hb'; clear hb')); obtain ⟨hcb, hfb, hz1, hz2, hz3, hz4⟩ := bcell hb; (try simp only [World.size_alloc, World.size_setCell, World.size_drew, Nat.lt_add_one_iff, Nat.add_assoc, Nat.reduceAdd] at hz1 hz2 hz3 hz4))))
              go_wp2
              go_ret
              refine ⟨ret_bool (eqL_ne ?_).symm, hfin _ (bstep hb hbl hbl.size)⟩
              intro hzz
              have hxy := HX.out
              rw [hzz] at hxy
              exact d0 (hxy.1.1.symm.trans hxy.2.1)
            · have hq' : (x1 == y1) = false := by simpa using d1
              obtain rfl := d0
              go_wp2
              ((refine wp_region_ext (by kernel_rfl) (by kernel_rfl) ?_); (repeat (any_goals (first | go_big_quiet_step (fail) | (refine wpQuiet_step (fun K hK => ?_); go_simp; split <;> (refine hK _ ?_; clear hK K)) | quiet_step (fail)))); (all_goals (refine wpQuiet_nil ?_; rintro _ ⟨z, rfl⟩; have hb' := z.h; generalize z.w = w1 at hb' ⊢; clear z; (first | (have hb2 := bstep hb' hb hb.size; clear hb' hcb hfb hz1 hz2 hz3 hz4 hb; have hb := hb2; clear hb2) | (have hb := hb'; clear hb')); obtain ⟨hcb, hfb, hz1, hz2, hz3, hz4⟩ := bcell hb; (try simp only [World.size_alloc, World.size_setCell, World.size_drew, Nat.lt_add_one_iff, Nat.add_assoc, Nat.reduceAdd] at hz1 hz2 hz3 hz4))))
              go_wp2
              go_ret
              refine ⟨ret_bool (eqL_ne ?_).symm, hfin _ (bstep hb hbl hbl.size)⟩
              intro hzz
              have hxy := HX.out
              rw [hzz] at hxy
              exact d1 (hxy.1.2.symm.trans hxy.2.2)
            · obtain rfl := d0
              obtain rfl := d1
              go_wp2
              ((refine wp_region_ext (by kernel_rfl) (by kernel_rfl) ?_); (repeat (any_goals (first | go_big_quiet_step (fail) | (refine wpQuiet_step (fun K hK => ?_); go_simp; split <;> (refine hK _ ?_; clear hK K)) | quiet_step (fail)))); (all_goals (refine wpQuiet_nil ?_; rintro _ ⟨z, rfl⟩; have hb' := z.h; generalize z.w = w1 at hb' ⊢; clear z; (first | (have hb2 := bstep hb' hb hb.size; clear hb' hcb hfb hz1 hz2 hz3 hz4 hb; have hb := hb2; clear hb2) | (have hb := hb'; clear hb')); obtain ⟨hcb, hfb, hz1, hz2, hz3, hz4⟩ := bcell hb; (try simp only [World.size_alloc, World.size_setCell, World.size_drew, Nat.lt_add_one_iff, Nat.add_assoc, Nat.reduceAdd] at hz1 hz2 hz3 hz4))))
              go_wp2
              refine ⟨⟨k + 1, by omega, by go_num, bstep hb hbl hbl.size, ?_⟩, by simp [intOf]; omega⟩
              intro j hj
              have hxy := HX.out
              rcases (by omega : j < k * 2 ∨ j = k * 2 ∨ j = k * 2 + 1) with h | h | h
              · exact hall.out j h
              · rw [h, hxy.1.1, hxy.2.1]
              · rw [h, hxy.1.2, hxy.2.2]
          · have hkn : k = n := by omega
            subst hkn
            go_wp2
            go_ret
            have hzy : PR l = PR r := list_ext_getD (by rw [HS.out.len, HT.out.len]) (fun j hj => hall.out j (by rw [HS.out.len] at hj; omega))
            exact ⟨ret_bool (by rw [hzy]; exact (eqL_self _).symm), hfin _ hbl⟩
      · have hz : eqL (PR l) (PR r) = false := by
          refine eqL_ne ?_
          intro h
          have h1 := hS.len
          have h2 := hT.len
          rw [h] at h1
          omega
        have hne : ¬ (n : Int) = (m : Int) := by omega
        rw [hz]
        go_enter Tryz.func57, Tryz.ntmps57
        go_wp2_with fail
        refine c1.mono ?_
        rintro e w1 ⟨rfl, b1⟩
        have c2 := specPairsOk_any B m cap' r w1 (hT.below b1) hr hm
        rw [hpb] at c2
        go_wp2_with fail
        refine c2.mono ?_
        rintro e w2 ⟨rfl, b2⟩
        go_wp2
        go_ret
        exact ⟨rfl, bthen b1 b2⟩
    · have hpb' : pairsB r = false := by simpa using hpb
      have hv : samePairsB l r = false := by simp [samePairsB, hpb']
      rw [hv]
      go_enter Tryz.func57, Tryz.ntmps57
      go_wp2_with fail
      refine c1.mono ?_
      rintro e w1 ⟨rfl, b1⟩
      have c2 := specPairsOk_any B m cap' r w1 (hT.below b1) hr hm
      rw [hpb'] at c2
      go_wp2_with fail
      refine c2.mono ?_
      rintro e w2 ⟨rfl, b2⟩
      go_wp2
      go_ret
      exact ⟨rfl, bthen b1 b2⟩
  · have hpa' : pairsB l = false := by simpa using hpa
    have hv : samePairsB l r = false := by simp [samePairsB, hpa']
    rw [hv]
    rw [hpa'] at c1
    go_enter Tryz.func57, Tryz.ntmps57
    go_wp2_with fail
    refine c1.mono ?_
    rintro e w1 ⟨rfl, b1⟩
    go_wp2
    go_ret
    exact ⟨rfl, b1⟩
end Go.Proofs.YtokklkmibjpjnaaGreat
namespace Go.Proofs.YtokklkmibjpjnaaGreat
set_option linter.unusedSimpArgs false
set_option linter.unusedVariables false
attribute [local go_sem] n_lt2 n_lt3 n_lt4 n_le2 n_le3
open Go.RowKit

def sameJobsB (a b : List Jb) : Bool := jobsB a && (jobsB b && eqL (JB a) (JB b))
attribute [local go_sem] Ext.cell Ext.frozen


set_option maxHeartbeats 2000000 in
theorem specSameJobs_any (A B : Option Addr) (n m cap cap' : Nat) (l r : List Jb) (w : World) (hS : Sl w 5 A n (JB l)) (hT : Sl w 5 B m (JB r)) (hl : l.length = n) (hr : r.length = m) (hn : n ≤ maxLen) (hm : m ≤ maxLen) :
    Calls Tryz.prog 58 #[.slice A n cap, .slice B m cap'] w fun e' w' => e' = .returned (.bool (sameJobsB l r)) ∧ Below w.heap.size w w' := by
  have c1 := specJobsOk_any A n cap l w hS hl hn
  by_cases hpa : jobsB l = true
  · rw [hpa] at c1
    by_cases hpb : jobsB r = true
    · have hv : sameJobsB l r = eqL (JB l) (JB r) := by simp [sameJobsB, hpa, hpb]
      rw [hv]
      by_cases hnm : n = m
      · subst hnm
        go_enter Tryz.func58, Tryz.ntmps58
        go_wp2_with fail
        refine c1.mono ?_
        rintro e w1 ⟨rfl, b1⟩
        have c2 := specJobsOk_any B n cap' r w1 (hT.below b1) hr hm
        rw [hpb] at c2
        go_wp2_with fail
        refine c2.mono ?_
        rintro e w2 ⟨rfl, b2⟩
        have F0 := bthen b1 b2
        have HS := Lib.hid (hS.below F0)
        have HT := Lib.hid (hT.below F0)
        clear hS hT c1 c2 hpa hpb hv
        clear b1 b2
        have hfin : ∀ w', Below w2.heap.size w2 w' → Below w.heap.size w w' := fun w' h => bthen F0 h
        unfold maxLen at hn hm
        go_wp2
        go_loopw [5] (fun i wr => ∃ (k : Nat), k ≤ n ∧ i = .int .i64 k ∧ Below w2.heap.size w2 wr ∧ Hid (∀ j, j < k * 5 → (JB l).getD j 0 = (JB r).getD j 0)) (fun i _ => n - (intOf i).toNat)
        case atStart => exact ⟨0, Nat.zero_le _, rfl, Below.refl _ _, fun j hj => absurd hj (by omega)⟩
        case round =>
          obtain ⟨k, hk, rfl, hbl, hall⟩ := hrel
          by_cases hlt : k < n
          · obtain ⟨b, off, rfl, hb, hcell⟩ := HS.out.at_ (by omega)
            obtain ⟨b', off', rfl, hb', hcell'⟩ := HT.out.at_ (by omega)
            have h0 := hcell (k * 5) (by omega)
            have h1 := hcell (k * 5 + 1) (by omega)
            have h2 := hcell (k * 5 + 2) (by omega)
            have h3 := hcell (k * 5 + 3) (by omega)
            have h4 := hcell (k * 5 + 4) (by omega)
            have p0 := hcell' (k * 5) (by omega)
            have p1 := hcell' (k * 5 + 1) (by omega)
            have p2 := hcell' (k * 5 + 2) (by omega)
            have p3 := hcell' (k * 5 + 3) (by omega)
            have p4 := hcell' (k * 5 + 4) (by omega)
            rw [← hbl.cell (by exact hb)] at h0 h1 h2 h3 h4
            rw [← hbl.cell (by exact hb')] at p0 p1 p2 p3 p4
            simp only [← Nat.add_assoc] at h0 h1 h2 h3 h4 p0 p1 p2 p3 p4
            clear hcell hcell'
            generalize hx0 : (JB l).getD (k * 5) 0 = x0 at h0
            generalize hx1 : (JB l).getD (k * 5 + 1) 0 = x1 at h1
            generalize hx2 : (JB l).getD (k * 5 + 2) 0 = x2 at h2
            generalize hx3 : (JB l).getD (k * 5 + 3) 0 = x3 at h3
            generalize hx4 : (JB l).getD (k * 5 + 4) 0 = x4 at h4
            generalize hy0 : (JB r).getD (k * 5) 0 = y0 at p0
            generalize hy1 : (JB r).getD (k * 5 + 1) 0 = y1 at p1
            generalize hy2 : (JB r).getD (k * 5 + 2) 0 = y2 at p2
            generalize hy3 : (JB r).getD (k * 5 + 3) 0 = y3 at p3
            generalize hy4 : (JB r).getD (k * 5 + 4) 0 = y4 at p4
            have HX := Lib.hid (And.intro (And.intro hx0 (And.intro hx1 (And.intro hx2 (And.intro hx3 hx4)))) (And.intro hy0 (And.intro hy1 (And.intro hy2 (And.intro hy3 hy4)))))
            clear hx0 hy0 hx1 hy1 hx2 hy2 hx3 hy3 hx4 hy4
            have hbr : b < wr.heap.size := Nat.lt_of_lt_of_le hb hbl.size
            have hbr' : b' < wr.heap.size := Nat.lt_of_lt_of_le hb' hbl.size
            have hk2 : (k : Int) < (n : Int) := by omega
            have hcs : (¬ x0 = y0) ∨ (x0 = y0 ∧ ¬ x1 = y1) ∨ (x0 = y0 ∧ x1 = y1 ∧ ¬ x2 = y2) ∨ (x0 = y0 ∧ x1 = y1 ∧ x2 = y2 ∧ ¬ x3 = y3) ∨ (x0 = y0 ∧ x1 = y1 ∧ x2 = y2 ∧ x3 = y3 ∧ ¬ x4 = y4) ∨ (x0 = y0 ∧ x1 = y1 ∧ x2 = y2 ∧ x3 = y3 ∧ x4 = y4) := by omega
            rcases hcs with ⟨d0⟩ | ⟨d0, d1⟩ | ⟨d0, d1, d2⟩ | ⟨d0, d1, d2, d3⟩ | ⟨d0, d1, d2, d3, d4⟩ | ⟨d0, d1, d2, d3, d4⟩
            · have hq' : (x0 == y0) = false := by simpa using d0
              go_wp2
              ((refine wp_region_ext (by kernel_rfl) (by kernel_rfl) ?_); (repeat (any_goals (first | go_big_quiet_step (fail) | (refine wpQuiet_step (fun K hK => ?_); go_simp; split <;> (refine hK _ ?_; clear hK K)) | quiet_step (fail)))); (all_goals (refine wpQuiet_nil ?_; rintro _ ⟨z, rfl⟩; have hb' := z.h; generalize z.w = w1 at hb' ⊢; clear z; (first | (have hb2 := bstep hb' hb hb.size; clear hb' hcb hfb hz1 hz2 hz3 hz4 hb; have hb := hb2; clear hb2) | (have hb := hb'; clear hb')); obtain ⟨hcb, hfb, hz1, hz2, hz3, hz4⟩ := bcell hb; (try simp only [World.size_alloc, World.size_setCell, World.size_drew, Nat.lt_add_one_iff, Nat.add_assoc, Nat.reduceAdd] at hz1 hz2 hz3 hz4))))
              go_wp2
              go_ret
              refine ⟨ret_bool (eqL_ne ?_).symm, hfin _ (bstep hb hbl hbl.size)⟩
              intro hzz
              have hxy := HX.out
              rw [hzz] at hxy
              exact d0 (hxy.1.1.symm.trans hxy.2.1)
            · have hq' : (x1 == y1) = false := by simpa using d1
              obtain rfl := d0
              go_wp2
              ((refine wp_region_ext (by kernel_rfl) (by kernel_rfl) ?_); (repeat (any_goals (first | go_big_quiet_step (fail) | (refine wpQuiet_step (fun K hK => ?_); go_simp; split <;> (refine hK _ ?_; clear hK K)) | quiet_step (fail)))); (all_goals (refine wpQuiet_nil ?_; rintro _ ⟨z, rfl⟩; have hb' := z.h; generalize z.w = w1 at hb' ⊢; clear z; (first | (have hb2 := bstep hb' hb hb.size; clear hb' hcb hfb hz1 hz2 hz3 hz4 hb; have hb := hb2; clear hb2) | (have hb := hb'; clear hb')); obtain ⟨hcb, hfb, hz1, hz2, hz3, hz4⟩ := bcell hb; (try simp only [World.size_alloc, World.size_setCell, World.size_drew, Nat.lt_add_one_iff, Nat.add_assoc, Nat.reduceAdd] at hz1 hz2 hz3 hz4))))
              go_wp2
              go_ret
              refine ⟨ret_bool (eqL_ne ?_).symm, hfin _ (bstep hb hbl hbl.size)⟩
              intro hzz
              have hxy := HX.out
              rw [hzz] at hxy
              exact d1 (hxy.1.2.1.symm.trans hxy.2.2.1)
            · have hq' : (x2 == y2) = false := by simpa using d2
              obtain rfl := d0
              obtain rfl := d1
              go_wp2
              ((refine wp_region_ext (by kernel_rfl) (by kernel_rfl) ?_); (repeat (any_goals (first | go_big_quiet_step (fail) | (refine wpQuiet_step (fun K hK => ?_); go_simp; split <;> (refine hK _ ?_; clear hK K)) | quiet_step (fail)))); (all_goals (refine wpQuiet_nil ?_; rintro _ ⟨z, rfl⟩; have hb' := z.h; generalize z.w = w1 at hb' ⊢; clear z; (first | (have hb2 := bstep hb' hb hb.size; clear hb' hcb hfb hz1 hz2 hz3 hz4 hb; have hb := hb2; clear hb2) | (have hb := hb'; clear hb')); obtain ⟨hcb, hfb, hz1, hz2, hz3, hz4⟩ := bcell hb; (try simp only [World.size_alloc, World.size_setCell, World.size_drew, Nat.lt_add_one_iff, Nat.add_assoc, Nat.reduceAdd] at hz1 hz2 hz3 hz4))))
              go_wp2
              go_ret
              refine ⟨ret_bool (eqL_ne ?_).symm, hfin _ (bstep hb hbl hbl.size)⟩
              intro hzz
              have hxy := HX.out
              rw [hzz] at hxy
              exact d2 (hxy.1.2.2.1.symm.trans hxy.2.2.2.1)
            · have hq' : (x3 == y3) = false := by simpa using d3
              obtain rfl := d0
              obtain rfl := d1
              obtain rfl := d2
              go_wp2
              ((refine wp_region_ext (by kernel_rfl) (by kernel_rfl) ?_); (repeat (any_goals (first | go_big_quiet_step (fail) | (refine wpQuiet_step (fun K hK => ?_); go_simp; split <;> (refine hK _ ?_; clear hK K)) | quiet_step (fail)))); (all_goals (refine wpQuiet_nil ?_; rintro _ ⟨z, rfl⟩; have hb' := z.h; generalize z.w = w1 at hb' ⊢; clear z; (first | (have hb2 := bstep hb' hb hb.size; clear hb' hcb hfb hz1 hz2 hz3 hz4 hb; have hb := hb2; clear hb2) | (have hb := hb'; clear hb')); obtain ⟨hcb, hfb, hz1, hz2, hz3, hz4⟩ := bcell hb; (try simp only [World.size_alloc, World.size_setCell, World.size_drew, Nat.lt_add_one_iff, Nat.add_assoc, Nat.reduceAdd] at hz1 hz2 hz3 hz4))))
              go_wp2
              go_ret
              refine ⟨ret_bool (eqL_ne ?_).symm, hfin _ (bstep hb hbl hbl.size)⟩
              intro hzz
              have hxy := HX.out
              rw [hzz] at hxy
              exact d3 (hxy.1.2.2.2.1.symm.trans hxy.2.2.2.2.1)
            · have hq' : (x4 == y4) = false := by simpa using d4
              obtain rfl := d0
              obtain rfl := d1
              obtain rfl := d2
              obtain rfl := d3
              go_wp2
              ((refine wp_region_ext (by kernel_rfl) (by kernel_rfl) ?_); (repeat (any_goals (first | go_big_quiet_step (fail) | (refine wpQuiet_step (fun K hK => ?_); go_simp; split <;> (refine hK _ ?_; clear hK K)) | quiet_step (fail)))); (all_goals (refine wpQuiet_nil ?_; rintro _ ⟨z, rfl⟩; have hb' := z.h; generalize z.w = w1 at hb' ⊢; clear z; (first | (have hb2 := bstep hb' hb hb.size; clear hb' hcb hfb hz1 hz2 hz3 hz4 hb; have hb := hb2; clear hb2) | (have hb := hb'; clear hb')); obtain ⟨hcb, hfb, hz1, hz2, hz3, hz4⟩ := bcell hb; (try simp only [World.size_alloc, World.size_setCell, World.size_drew, Nat.lt_add_one_iff, Nat.add_assoc, Nat.reduceAdd] at hz1 hz2 hz3 hz4))))
              go_wp2
              go_ret
              refine ⟨ret_bool (eqL_ne ?_).symm, hfin _ (bstep hb hbl hbl.size)⟩
              intro hzz
              have hxy := HX.out
              rw [hzz] at hxy
              exact d4 (hxy.1.2.2.2.2.symm.trans hxy.2.2.2.2.2)
            · obtain rfl := d0
              obtain rfl := d1
              obtain rfl := d2
              obtain rfl := d3
              obtain rfl := d4
              go_wp2
              ((refine wp_region_ext (by kernel_rfl) (by kernel_rfl) ?_); (repeat (any_goals (first | go_big_quiet_step (fail) | (refine wpQuiet_step (fun K hK => ?_); go_simp; split <;> (refine hK _ ?_; clear hK K)) | quiet_step (fail)))); (all_goals (refine wpQuiet_nil ?_; rintro _ ⟨z, rfl⟩; have hb' := z.h; generalize z.w = w1 at hb' ⊢; clear z; (first | (have hb2 := bstep hb' hb hb.size; clear hb' hcb hfb hz1 hz2 hz3 hz4 hb; have hb := hb2; clear hb2) | (have hb := hb'; clear hb')); obtain ⟨hcb, hfb, hz1, hz2, hz3, hz4⟩ := bcell hb; (try simp only [World.size_alloc, World.size_setCell, World.size_drew, Nat.lt_add_one_iff, Nat.add_assoc, Nat.reduceAdd] at hz1 hz2 hz3 hz4))))
              go_wp2
              refine ⟨⟨k + 1, by omega, by go_num, bstep hb hbl hbl.size, ?_⟩, by simp [intOf]; omega⟩
              intro j hj
              have hxy := HX.out
              rcases (by omega : j < k * 5 ∨ j = k * 5 ∨ j = k * 5 + 1 ∨ j = k * 5 + 2 ∨ j = k * 5 + 3 ∨ j = k * 5 + 4) with h | h | h | h | h | h
              · exact hall.out j h
              · rw [h, hxy.1.1, hxy.2.1]
              · rw [h, hxy.1.2.1, hxy.2.2.1]
              · rw [h, hxy.1.2.2.1, hxy.2.2.2.1]
              · rw [h, hxy.1.2.2.2.1, hxy.2.2.2.2.1]
              · rw [h, hxy.1.2.2.2.2, hxy.2.2.2.2.2]
          · have hkn : k = n := by omega
            subst hkn
            go_wp2
            go_ret
            have hzy : JB l = JB r := list_ext_getD (by rw [HS.out.len, HT.out.len]) (fun j hj => hall.out j (by rw [HS.out.len] at hj; omega))
            exact ⟨ret_bool (by rw [hzy]; exact (eqL_self _).symm), hfin _ hbl⟩
      · have hz : eqL (JB l) (JB r) = false := by
          refine eqL_ne ?_
          intro h
          have h1 := hS.len
          have h2 := hT.len
          rw [h] at h1
          omega
        have hne : ¬ (n : Int) = (m : Int) := by omega
        rw [hz]
        go_enter Tryz.func58, Tryz.ntmps58
        go_wp2_with fail
        refine c1.mono ?_
        rintro e w1 ⟨rfl, b1⟩
        have c2 := specJobsOk_any B m cap' r w1 (hT.below b1) hr hm
        rw [hpb] at c2
        go_wp2_with fail
        refine c2.mono ?_
        rintro e w2 ⟨rfl, b2⟩
        go_wp2
        go_ret
        exact ⟨rfl, bthen b1 b2⟩
    · have hpb' : jobsB r = false := by simpa using hpb
      have hv : sameJobsB l r = false := by simp [sameJobsB, hpb']
      rw [hv]
      go_enter Tryz.func58, Tryz.ntmps58
      go_wp2_with fail
      refine c1.mono ?_
      rintro e w1 ⟨rfl, b1⟩
      have c2 := specJobsOk_any B m cap' r w1 (hT.below b1) hr hm
      rw [hpb'] at c2
      go_wp2_with fail
      refine c2.mono ?_
      rintro e w2 ⟨rfl, b2⟩
      go_wp2
      go_ret
      exact ⟨rfl, bthen b1 b2⟩
  · have hpa' : jobsB l = false := by simpa using hpa
    have hv : sameJobsB l r = false := by simp [sameJobsB, hpa']
    rw [hv]
    rw [hpa'] at c1
    go_enter Tryz.func58, Tryz.ntmps58
    go_wp2_with fail
    refine c1.mono ?_
    rintro e w1 ⟨rfl, b1⟩
    go_wp2
    go_ret
    exact ⟨rfl, b1⟩
end Go.Proofs.YtokklkmibjpjnaaGreat
namespace Go.Proofs.YtokklkmibjpjnaaGreat
set_option linter.unusedSimpArgs false
set_option linter.unusedVariables false
attribute [local go_sem] n_lt2 n_lt3 n_lt4 n_le2 n_le3
open Go.RowKit
def sameStateB (i0 t0 l0 l1 l2 : Int) (pl : List Pr) (ql : List Jb) (j0 u0 k0 k1 k2 : Int) (pl2 : List Pr) (ql2 : List Jb) : Bool :=
  stateB i0 t0 l0 l1 l2 pl ql && (stateB j0 u0 k0 k1 k2 pl2 ql2 && ((i0 == j0) && ((t0 == u0) && (samePairsB pl pl2 && (sameJobsB ql ql2 && ((l0 == k0) && ((l1 == k1) && (l2 == k2))))))))
attribute [local go_sem] Ext.cell Ext.frozen
set_option maxRecDepth 100000 in
set_option maxHeartbeats 4000000 in
theorem specSameState_any (A : Option Addr) (n c : Nat) (B : Option Addr) (m d : Nat) (i0 t0 l0 l1 l2 : Int) (A2 : Option Addr) (n2 c2 : Nat) (B2 : Option Addr) (m2 d2 : Nat) (j0 u0 k0 k1 k2 : Int) (pl : List Pr) (ql : List Jb) (pl2 : List Pr) (ql2 : List Jb) (w : World) (hP : Sl w 2 A n (PR pl)) (hQ : Sl w 5 B m (JB ql)) (hU : Sl w 2 A2 n2 (PR pl2)) (hW : Sl w 5 B2 m2 (JB ql2)) (hl : pl.length = n) (hr : ql.length = m) (hl2 : pl2.length = n2) (hr2 : ql2.length = m2) (hn : n ≤ maxLen) (hm : m ≤ maxLen) (hn2 : n2 ≤ maxLen) (hm2 : m2 ≤ maxLen) :
    Calls Tryz.prog 23 #[.agg #[.int .i64 i0, .int .i64 t0, .slice A n c, .slice B m d, .int .i64 l0, .int .i64 l1, .int .i64 l2], .agg #[.int .i64 j0, .int .i64 u0, .slice A2 n2 c2, .slice B2 m2 d2, .int .i64 k0, .int .i64 k1, .int .i64 k2]] w fun e' w' => e' = .returned (.bool (sameStateB i0 t0 l0 l1 l2 pl ql j0 u0 k0 k1 k2 pl2 ql2)) ∧ Below w.heap.size w w' := by
  have hL := Lib.hid hl
  have hR := Lib.hid hr
  have hL2 := Lib.hid hl2
  have hR2 := Lib.hid hr2
  have HP := Lib.hid hP
  have HQ := Lib.hid hQ
  have HU := Lib.hid hU
  have HW := Lib.hid hW
  clear hP hQ hU hW hl hr hl2 hr2
  go_enter Tryz.func23, Tryz.ntmps23
  go_wp2_with fail
  refine calls_named ?_
  rintro v0 hv0
  have f0 : Below w.heap.size w v0 := by rw [hv0]; (repeat' (first | (with_reducible exact Below.refl _ _) | (with_reducible assumption) | (with_reducible refine Below.alloc ?_ ?_ _) | (with_reducible refine Below.drew ?_) | (with_reducible refine Below.setCell ?_ ?_ _) | (with_reducible refine bstep (by assumption) ?_ ?_) | (with_reducible exact Nat.le_refl _) | omega | (simp [*]; done) | (simp [*]; omega)))
  have z0 : w.heap.size + 2 ≤ v0.heap.size := by rw [hv0]; simp [size_set]
  have HP_0 := Lib.hid (HP.out.below f0)
  have HP_lt := Lib.hid (fun hn => HP.out.lt hn)
  have HQ_0 := Lib.hid (HQ.out.below f0)
  have HQ_lt := Lib.hid (fun hn => HQ.out.lt hn)
  have HU_0 := Lib.hid (HU.out.below f0)
  have HU_lt := Lib.hid (fun hn => HU.out.lt hn)
  have HW_0 := Lib.hid (HW.out.below f0)
  have HW_lt := Lib.hid (fun hn => HW.out.lt hn)
  have Ha_0 : Hid (Blk v0 w.heap.size 37 #[.int .i64 i0, .int .i64 t0, .slice A n c, .slice B m d, .int .i64 l0, .int .i64 l1, .int .i64 l2]) := by rw [hv0]; exact (Blk.new_at _ _ _ _ (by simp)).alloc _
  have Hb_0 : Hid (Blk v0 (w.heap.size + 1) 37 #[.int .i64 j0, .int .i64 u0, .slice A2 n2 c2, .slice B2 m2 d2, .int .i64 k0, .int .i64 k1, .int .i64 k2]) := by rw [hv0]; exact Blk.new_at _ _ _ _ (by simp)
  clear hv0
  generalize hg1 : w.heap.size + 1 = g1 at *
  have lg1 : w.heap.size < g1 := by omega
  have lgz : g1 < v0.heap.size := by omega
  have nq1x0 : ¬ g1 = w.heap.size := by omega
  have nq0x1 : ¬ w.heap.size = g1 := by omega
  clear hg1
  have lt_a := Ha_0.out.lt
  obtain ⟨r_a0, r_a1, r_a2, r_a3, r_a4, r_a5, r_a6⟩ := bc7 Ha_0.out
  have lt_b := Hb_0.out.lt
  obtain ⟨r_b0, r_b1, r_b2, r_b3, r_b4, r_b5, r_b6⟩ := bc7 Hb_0.out
  have cc := specStateOk_any A n c B m d i0 t0 l0 l1 l2 pl ql v0 HP_0.out HQ_0.out hL.out hR.out hn hm
  cases q1 : (stateB i0 t0 l0 l1 l2 pl ql) with
  | false =>
    rw [q1] at cc
    have Hq1 := Lib.hid q1
    clear q1
    refine (cc).mono ?_
    rintro e v1 ⟨rfl, b1⟩
    have f1 := bthen f0 b1
    have z1 := b1.size
    have HP_1 := Lib.hid (HP_0.out.below b1)
    have HQ_1 := Lib.hid (HQ_0.out.below b1)
    have HU_1 := Lib.hid (HU_0.out.below b1)
    have HW_1 := Lib.hid (HW_0.out.below b1)
    have Ha_1 := Lib.hid (Ha_0.out.below b1)
    have Hb_1 := Lib.hid (Hb_0.out.below b1)
    clear lt_a r_a0 r_a1 r_a2 r_a3 r_a4 r_a5 r_a6 lt_b r_b0 r_b1 r_b2 r_b3 r_b4 r_b5 r_b6
    clear HP_0 HQ_0 HU_0 HW_0 Ha_0 Hb_0
    have lt_a := Ha_1.out.lt
    obtain ⟨r_a0, r_a1, r_a2, r_a3, r_a4, r_a5, r_a6⟩ := bc7 Ha_1.out
    have lt_b := Hb_1.out.lt
    obtain ⟨r_b0, r_b1, r_b2, r_b3, r_b4, r_b5, r_b6⟩ := bc7 Hb_1.out
    have hv : sameStateB i0 t0 l0 l1 l2 pl ql j0 u0 k0 k1 k2 pl2 ql2 = false := by unfold sameStateB; rw [Hq1.out]; simp
    have HV := Lib.hid hv
    clear hv
    go_wp21
    go_ret
    exact ⟨ret_bool HV.out.symm, f1⟩
  | true =>
    rw [q1] at cc
    have Hq1 := Lib.hid q1
    clear q1
    refine (cc).mono ?_
    rintro e v1 ⟨rfl, b1⟩
    have f1 := bthen f0 b1
    have z1 := b1.size
    have HP_1 := Lib.hid (HP_0.out.below b1)
    have HQ_1 := Lib.hid (HQ_0.out.below b1)
    have HU_1 := Lib.hid (HU_0.out.below b1)
    have HW_1 := Lib.hid (HW_0.out.below b1)
    have Ha_1 := Lib.hid (Ha_0.out.below b1)
    have Hb_1 := Lib.hid (Hb_0.out.below b1)
    clear lt_a r_a0 r_a1 r_a2 r_a3 r_a4 r_a5 r_a6 lt_b r_b0 r_b1 r_b2 r_b3 r_b4 r_b5 r_b6
    clear HP_0 HQ_0 HU_0 HW_0 Ha_0 Hb_0
    have lt_a := Ha_1.out.lt
    obtain ⟨r_a0, r_a1, r_a2, r_a3, r_a4, r_a5, r_a6⟩ := bc7 Ha_1.out
    have lt_b := Hb_1.out.lt
    obtain ⟨r_b0, r_b1, r_b2, r_b3, r_b4, r_b5, r_b6⟩ := bc7 Hb_1.out
    clear cc
    have cc := specStateOk_any A2 n2 c2 B2 m2 d2 j0 u0 k0 k1 k2 pl2 ql2 v1 HU_1.out HW_1.out hL2.out hR2.out hn2 hm2
    cases q2 : (stateB j0 u0 k0 k1 k2 pl2 ql2) with
    | false =>
      rw [q2] at cc
      have Hq2 := Lib.hid q2
      clear q2
      go_wp2_with fail
      refine (cc).mono ?_
      rintro e v2 ⟨rfl, b2⟩
      have f2 := bthen f1 b2
      have z2 := b2.size
      have HP_2 := Lib.hid (HP_1.out.below b2)
      have HQ_2 := Lib.hid (HQ_1.out.below b2)
      have HU_2 := Lib.hid (HU_1.out.below b2)
      have HW_2 := Lib.hid (HW_1.out.below b2)
      have Ha_2 := Lib.hid (Ha_1.out.below b2)
      have Hb_2 := Lib.hid (Hb_1.out.below b2)
      clear lt_a r_a0 r_a1 r_a2 r_a3 r_a4 r_a5 r_a6 lt_b r_b0 r_b1 r_b2 r_b3 r_b4 r_b5 r_b6
      clear HP_1 HQ_1 HU_1 HW_1 Ha_1 Hb_1
      have lt_a := Ha_2.out.lt
      obtain ⟨r_a0, r_a1, r_a2, r_a3, r_a4, r_a5, r_a6⟩ := bc7 Ha_2.out
      have lt_b := Hb_2.out.lt
      obtain ⟨r_b0, r_b1, r_b2, r_b3, r_b4, r_b5, r_b6⟩ := bc7 Hb_2.out
      have hv : sameStateB i0 t0 l0 l1 l2 pl ql j0 u0 k0 k1 k2 pl2 ql2 = false := by unfold sameStateB; rw [Hq1.out, Hq2.out]; simp
      have HV := Lib.hid hv
      clear hv
      go_wp21
      go_ret
      exact ⟨ret_bool HV.out.symm, f2⟩
    | true =>
      rw [q2] at cc
      have Hq2 := Lib.hid q2
      clear q2
      go_wp2_with fail
      refine (cc).mono ?_
      rintro e v2 ⟨rfl, b2⟩
      have f2 := bthen f1 b2
      have z2 := b2.size
      have HP_2 := Lib.hid (HP_1.out.below b2)
      have HQ_2 := Lib.hid (HQ_1.out.below b2)
      have HU_2 := Lib.hid (HU_1.out.below b2)
      have HW_2 := Lib.hid (HW_1.out.below b2)
      have Ha_2 := Lib.hid (Ha_1.out.below b2)
      have Hb_2 := Lib.hid (Hb_1.out.below b2)
      clear lt_a r_a0 r_a1 r_a2 r_a3 r_a4 r_a5 r_a6 lt_b r_b0 r_b1 r_b2 r_b3 r_b4 r_b5 r_b6
      clear HP_1 HQ_1 HU_1 HW_1 Ha_1 Hb_1
      have lt_a := Ha_2.out.lt
      obtain ⟨r_a0, r_a1, r_a2, r_a3, r_a4, r_a5, r_a6⟩ := bc7 Ha_2.out
      have lt_b := Hb_2.out.lt
      obtain ⟨r_b0, r_b1, r_b2, r_b3, r_b4, r_b5, r_b6⟩ := bc7 Hb_2.out
      clear cc
      cases q3 : (i0 == j0) with
      | false =>
        have Hq3 := Lib.hid q3
        have hv : sameStateB i0 t0 l0 l1 l2 pl ql j0 u0 k0 k1 k2 pl2 ql2 = false := by unfold sameStateB; rw [Hq1.out, Hq2.out, Hq3.out]; simp
        have HV := Lib.hid hv
        clear hv
        go_wp21
        go_ret
        exact ⟨ret_bool HV.out.symm, f2⟩
      | true =>
        have Hq3 : Hid ((i0 == j0) = true) := q3
        cases q4 : (t0 == u0) with
        | false =>
          have Hq4 := Lib.hid q4
          have hv : sameStateB i0 t0 l0 l1 l2 pl ql j0 u0 k0 k1 k2 pl2 ql2 = false := by unfold sameStateB; rw [Hq1.out, Hq2.out, Hq3.out, Hq4.out]; simp
          have HV := Lib.hid hv
          clear hv
          go_wp21
          go_ret
          exact ⟨ret_bool HV.out.symm, f2⟩
        | true =>
          have Hq4 : Hid ((t0 == u0) = true) := q4
          have cc := specSamePairs_any A A2 n n2 c c2 pl pl2 v2 HP_2.out HU_2.out hL.out hL2.out hn hn2
          cases q5 : (samePairsB pl pl2) with
          | false =>
            rw [q5] at cc
            have Hq5 := Lib.hid q5
            clear q5
            go_wp2_with fail
            refine (cc).mono ?_
            rintro e v3 ⟨rfl, b3⟩
            have f3 := bthen f2 b3
            have z3 := b3.size
            have HP_3 := Lib.hid (HP_2.out.below b3)
            have HQ_3 := Lib.hid (HQ_2.out.below b3)
            have HU_3 := Lib.hid (HU_2.out.below b3)
            have HW_3 := Lib.hid (HW_2.out.below b3)
            have Ha_3 := Lib.hid (Ha_2.out.below b3)
            have Hb_3 := Lib.hid (Hb_2.out.below b3)
            clear lt_a r_a0 r_a1 r_a2 r_a3 r_a4 r_a5 r_a6 lt_b r_b0 r_b1 r_b2 r_b3 r_b4 r_b5 r_b6
            clear HP_2 HQ_2 HU_2 HW_2 Ha_2 Hb_2
            have lt_a := Ha_3.out.lt
            obtain ⟨r_a0, r_a1, r_a2, r_a3, r_a4, r_a5, r_a6⟩ := bc7 Ha_3.out
            have lt_b := Hb_3.out.lt
            obtain ⟨r_b0, r_b1, r_b2, r_b3, r_b4, r_b5, r_b6⟩ := bc7 Hb_3.out
            have hv : sameStateB i0 t0 l0 l1 l2 pl ql j0 u0 k0 k1 k2 pl2 ql2 = false := by unfold sameStateB; rw [Hq1.out, Hq2.out, Hq3.out, Hq4.out, Hq5.out]; simp
            have HV := Lib.hid hv
            clear hv
            go_wp21
            go_ret
            exact ⟨ret_bool HV.out.symm, f3⟩
          | true =>
            rw [q5] at cc
            have Hq5 := Lib.hid q5
            clear q5
            go_wp2_with fail
            refine (cc).mono ?_
            rintro e v3 ⟨rfl, b3⟩
            have f3 := bthen f2 b3
            have z3 := b3.size
            have HP_3 := Lib.hid (HP_2.out.below b3)
            have HQ_3 := Lib.hid (HQ_2.out.below b3)
            have HU_3 := Lib.hid (HU_2.out.below b3)
            have HW_3 := Lib.hid (HW_2.out.below b3)
            have Ha_3 := Lib.hid (Ha_2.out.below b3)
            have Hb_3 := Lib.hid (Hb_2.out.below b3)
            clear lt_a r_a0 r_a1 r_a2 r_a3 r_a4 r_a5 r_a6 lt_b r_b0 r_b1 r_b2 r_b3 r_b4 r_b5 r_b6
            clear HP_2 HQ_2 HU_2 HW_2 Ha_2 Hb_2
            have lt_a := Ha_3.out.lt
            obtain ⟨r_a0, r_a1, r_a2, r_a3, r_a4, r_a5, r_a6⟩ := bc7 Ha_3.out
            have lt_b := Hb_3.out.lt
            obtain ⟨r_b0, r_b1, r_b2, r_b3, r_b4, r_b5, r_b6⟩ := bc7 Hb_3.out
            clear cc
            clear q3 q4
            have cc := specSameJobs_any B B2 m m2 d d2 ql ql2 v3 HQ_3.out HW_3.out hR.out hR2.out hm hm2
            cases q6 : (sameJobsB ql ql2) with
            | false =>
              rw [q6] at cc
              have Hq6 := Lib.hid q6
              clear q6
              go_wp2_with fail
              refine (cc).mono ?_
              rintro e v4 ⟨rfl, b4⟩
              have f4 := bthen f3 b4
              have z4 := b4.size
              have HP_4 := Lib.hid (HP_3.out.below b4)
              have HQ_4 := Lib.hid (HQ_3.out.below b4)
              have HU_4 := Lib.hid (HU_3.out.below b4)
              have HW_4 := Lib.hid (HW_3.out.below b4)
              have Ha_4 := Lib.hid (Ha_3.out.below b4)
              have Hb_4 := Lib.hid (Hb_3.out.below b4)
              clear lt_a r_a0 r_a1 r_a2 r_a3 r_a4 r_a5 r_a6 lt_b r_b0 r_b1 r_b2 r_b3 r_b4 r_b5 r_b6
              clear HP_3 HQ_3 HU_3 HW_3 Ha_3 Hb_3
              have lt_a := Ha_4.out.lt
              obtain ⟨r_a0, r_a1, r_a2, r_a3, r_a4, r_a5, r_a6⟩ := bc7 Ha_4.out
              have lt_b := Hb_4.out.lt
              obtain ⟨r_b0, r_b1, r_b2, r_b3, r_b4, r_b5, r_b6⟩ := bc7 Hb_4.out
              have hv : sameStateB i0 t0 l0 l1 l2 pl ql j0 u0 k0 k1 k2 pl2 ql2 = false := by unfold sameStateB; rw [Hq1.out, Hq2.out, Hq3.out, Hq4.out, Hq5.out, Hq6.out]; simp
              have HV := Lib.hid hv
              clear hv
              go_wp21
              go_ret
              exact ⟨ret_bool HV.out.symm, f4⟩
            | true =>
              rw [q6] at cc
              have Hq6 := Lib.hid q6
              clear q6
              go_wp2_with fail
              refine (cc).mono ?_
              rintro e v4 ⟨rfl, b4⟩
              have f4 := bthen f3 b4
              have z4 := b4.size
              have HP_4 := Lib.hid (HP_3.out.below b4)
              have HQ_4 := Lib.hid (HQ_3.out.below b4)
              have HU_4 := Lib.hid (HU_3.out.below b4)
              have HW_4 := Lib.hid (HW_3.out.below b4)
              have Ha_4 := Lib.hid (Ha_3.out.below b4)
              have Hb_4 := Lib.hid (Hb_3.out.below b4)
              clear lt_a r_a0 r_a1 r_a2 r_a3 r_a4 r_a5 r_a6 lt_b r_b0 r_b1 r_b2 r_b3 r_b4 r_b5 r_b6
              clear HP_3 HQ_3 HU_3 HW_3 Ha_3 Hb_3
              have lt_a := Ha_4.out.lt
              obtain ⟨r_a0, r_a1, r_a2, r_a3, r_a4, r_a5, r_a6⟩ := bc7 Ha_4.out
              have lt_b := Hb_4.out.lt
              obtain ⟨r_b0, r_b1, r_b2, r_b3, r_b4, r_b5, r_b6⟩ := bc7 Hb_4.out
              clear cc
              cases q7 : (l0 == k0) with
              | false =>
                have Hq7 := Lib.hid q7
                have hv : sameStateB i0 t0 l0 l1 l2 pl ql j0 u0 k0 k1 k2 pl2 ql2 = false := by unfold sameStateB; rw [Hq1.out, Hq2.out, Hq3.out, Hq4.out, Hq5.out, Hq6.out, Hq7.out]; simp
                have HV := Lib.hid hv
                clear hv
                go_wp21
                go_ret
                exact ⟨ret_bool HV.out.symm, f4⟩
              | true =>
                have Hq7 : Hid ((l0 == k0) = true) := q7
                cases q8 : (l1 == k1) with
                | false =>
                  have Hq8 := Lib.hid q8
                  have hv : sameStateB i0 t0 l0 l1 l2 pl ql j0 u0 k0 k1 k2 pl2 ql2 = false := by unfold sameStateB; rw [Hq1.out, Hq2.out, Hq3.out, Hq4.out, Hq5.out, Hq6.out, Hq7.out, Hq8.out]; simp
                  have HV := Lib.hid hv
                  clear hv
                  go_wp21
                  go_ret
                  exact ⟨ret_bool HV.out.symm, f4⟩
                | true =>
                  have Hq8 : Hid ((l1 == k1) = true) := q8
                  cases q9 : (l2 == k2) with
                  | false =>
                    have Hq9 := Lib.hid q9
                    have hv : sameStateB i0 t0 l0 l1 l2 pl ql j0 u0 k0 k1 k2 pl2 ql2 = false := by unfold sameStateB; rw [Hq1.out, Hq2.out, Hq3.out, Hq4.out, Hq5.out, Hq6.out, Hq7.out, Hq8.out, Hq9.out]; simp
                    have HV := Lib.hid hv
                    clear hv
                    go_wp21
                    go_ret
                    exact ⟨ret_bool HV.out.symm, f4⟩
                  | true =>
                    have Hq9 : Hid ((l2 == k2) = true) := q9
                    have hv : sameStateB i0 t0 l0 l1 l2 pl ql j0 u0 k0 k1 k2 pl2 ql2 = true := by unfold sameStateB; rw [Hq1.out, Hq2.out, Hq3.out, Hq4.out, Hq5.out, Hq6.out, Hq7.out, Hq8.out, Hq9.out]; rfl
                    have HV := Lib.hid hv
                    clear hv
                    go_wp21
                    go_ret
                    exact ⟨ret_bool HV.out.symm, f4⟩
end Go.Proofs.YtokklkmibjpjnaaGreat
