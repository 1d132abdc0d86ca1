/- The reference's NumbersState: where the row has the shape and its parts are valid. -/
import Derived.Test.YtodkcanhlpgpgaaN1
import Derived.Test.YtodkcanhlpgpgaaC1
import Derived.Test.YtodkcanhlpgpgaaRP
import Derived.Test.YtodkcanhlpgpgaaRJ
import Derived.Test.YtodkcanhlpgpgaaLease8
namespace Go.Proofs.Ytodkcanhlpgpgaa
set_option linter.unusedSimpArgs false
set_option linter.unusedVariables false
attribute [local go_sem] n_lt2 n_lt3 n_lt4 n_le2 n_le3
open Go.RowKit
attribute [local go_sem] Ext.cell Ext.frozen
set_option maxRecDepth 100000 in
set_option maxHeartbeats 8000000 in
theorem specNumbersState_row4 (A : Option Addr) (n cap : Nat) (zs : List Int) (w : World) (hS : Sl w 1 A n zs) (hn : n ≤ maxLen) (hc : n ≤ cap) (p q : Nat) (hsh : Shape zs p q) (hcase : ∀ s, zs = numRow s → pairsB s.p = true ∧ jobsB s.q = true ∧ leaseB s.h s.e s.u = true ∧ stOk s = false) :
    Calls Try.prog 28 #[.slice A n cap] w (RetStB w (numR zs).1 (numR zs).2) := by
  have HS := Lib.hid (fun (w' : World) (hB : Below w.heap.size w w') => hS.below hB)
  have hlen := hS.len
  obtain ⟨s, hs1, hs2, hs3, hs4, hs5, hs6, hs7, hs8⟩ := shape_row hsh
  have hnr := numR_at hs1
  obtain ⟨hp10, hq8, hln, hz2, hz3⟩ := hsh
  obtain ⟨at1, hat⟩ : ∃ x : Nat, x = 3 + 2 * p := ⟨_, rfl⟩
  rw [← hat] at hz3
  have hlen2 : n = at1 + 1 + 5 * q + 3 := by omega
  unfold maxLen at hn
  obtain ⟨b, off, rfl, hb, hcc⟩ := hS.at_ (by omega)
  have hc0 : w.cell? ⟨b, off, none⟩ = some (.int .i64 (zs.getD 0 0)) := hcc 0 (by omega)
  have hc1 := hcc 1 (by omega)
  have hc2 := hcc 2 (by omega)
  have hc3 := hcc at1 (by omega)
  rw [hz2] at hc2
  rw [hz3] at hc3
  obtain ⟨⟨si, st, pl, ql, sh, se, su⟩, hse⟩ : ∃ s' : Stt, s = s' := ⟨_, rfl⟩
  subst hse
  simp only at hs2 hs3 hs4 hs5 hs6 hs7 hs8
  rw [← hs4] at hc0
  rw [← hs5] at hc1
  have r1 : (zs.drop 2).take (at1 - 2) = (pl.length : Int) :: PR pl := by
    rw [drop_cons (by omega : 2 < zs.length), hz2, show at1 - 2 = 2 * p + 1 by omega, List.take_succ_cons, hs6, hs2]
  have r2 : (zs.drop at1).take (n - 3 - at1) = (ql.length : Int) :: JB ql := by
    rw [drop_cons (by omega : at1 < zs.length), hz3, show n - 3 - at1 = 5 * q + 1 by omega, List.take_succ_cons, show at1 + 1 = 4 + 2 * p by omega, hs7, hs3]
  have r3 : (zs.drop (n - 3)).take (n - (n - 3)) = [sh, se, su] := by rw [show n - (n - 3) = 3 by omega, show n - 3 = 4 + 2 * p + 5 * q by omega, hs8]; rfl
  have S1 := Lib.hid (fun (w' : World) (hB : Below w.heap.size w w') => r1 ▸ sl_part (HS.out w' hB) 2 (at1 - 2) (by omega))
  have S2 := Lib.hid (fun (w' : World) (hB : Below w.heap.size w w') => r2 ▸ sl_part (HS.out w' hB) at1 (n - 3 - at1) (by omega))
  have S3 := Lib.hid (fun (w' : World) (hB : Below w.heap.size w w') => r3 ▸ sl_part (HS.out w' hB) (n - 3) (n - (n - 3)) (by omega))
  have hcs := hcase _ hs1
  clear r1 r2 r3 hs1 hs4 hs5 hs6 hs7 hs8 hcc hS hlen hln hz2 hz3
  have HS23 := Lib.hid (And.intro hs2 hs3)
  clear hs2 hs3
  have h7i : ¬ (n : Int) < 7 := by omega
  have h67i : ¬ (67 : Int) < (n : Int) := by omega
  have hx : (2 : Int) < (n : Int) := by omega
  have hin : inB (p : Int) 0 10 = true := (inB_iff _ _ _).2 (by omega)
  have hin2 : inB (q : Int) 0 8 = true := (inB_iff _ _ _).2 (by omega)
  have hw1 : IntKind.i64.wrap (2 * (p : Int)) = 2 * (p : Int) := by rw [IntKind.wrap_i64]; omega
  have hw2 : IntKind.i64.wrap (3 + 2 * (p : Int)) = (at1 : Int) := by rw [IntKind.wrap_i64]; omega
  have hgei : ¬ (n : Int) ≤ (at1 : Int) := by omega
  have hlti : (at1 : Int) < (n : Int) := by omega
  have hw3 : IntKind.i64.wrap ((at1 : Int) + 1) = (at1 : Int) + 1 := by rw [IntKind.wrap_i64]; omega
  have hw4 : IntKind.i64.wrap (5 * (q : Int)) = 5 * (q : Int) := by rw [IntKind.wrap_i64]; omega
  have hw5 : IntKind.i64.wrap ((at1 : Int) + 1 + 5 * (q : Int)) = (at1 : Int) + 1 + 5 * (q : Int) := by rw [IntKind.wrap_i64]; omega
  have hw6 : IntKind.i64.wrap ((at1 : Int) + 1 + 5 * (q : Int) + 3) = (n : Int) := by rw [IntKind.wrap_i64]; omega
  have hw7 : IntKind.i64.wrap ((n : Int) - 3) = ((n - 3 : Nat) : Int) := by rw [IntKind.wrap_i64]; omega
  have hn3 : (3 : Int) ≤ (n : Int) := by omega
  have hl1 : (2 : Int) ≤ (at1 : Int) := by omega
  have hl2 : (at1 : Int) ≤ (cap : Int) := by omega
  have hl3 : (at1 : Int) ≤ ((n - 3 : Nat) : Int) := by omega
  have hl4 : ((n - 3 : Nat) : Int) ≤ (cap : Int) := by omega
  have hl5 : ((n - 3 : Nat) : Int) ≤ (n : Int) := by omega
  have hl6 : ¬ cap = 2 := by omega
  have hl7 : ¬ cap = at1 := by omega
  have hl8 : ¬ cap = n - 3 := by omega
  simp only at hcs
  obtain ⟨ok, hok⟩ : ∃ x, stOk ⟨si, st, pl, ql, sh, se, su⟩ = x := ⟨_, rfl⟩
  rw [hok] at hnr
  generalize numR zs = r at hnr ⊢
  have HNR := Lib.hid hnr
  have HOK := Lib.hid hok
  have HAT := Lib.hid (And.intro hat hlen2)
  clear hnr hok hat hlen2
  go_enter Try.func28, Try.ntmps28
  go_wp2_with ((go_at_call 37; refine (l1In_any _ _ _ _).mono ?_; rintro e w' ⟨rfl, rfl⟩))
  obtain ⟨v0, hv⟩ : ∃ x : World, x = w.alloc (.cells #[.int .i64 0, .int .i64 0, .slice none 0 0, .slice none 0 0, .int .i64 0, .int .i64 0, .int .i64 0] 34) := ⟨_, rfl⟩
  rw [← hv]
  have F_0 : Below w.heap.size w v0 := by rw [hv]; exact (Below.refl _ _).alloc (Nat.le_refl _) _
  have R_0 : Blk v0 w.heap.size 34 #[.int .i64 0, .int .i64 0, .slice none 0 0, .slice none 0 0, .int .i64 0, .int .i64 0, .int .i64 0] := by rw [hv]; exact Blk.new_at _ _ _ _ rfl
  clear hv
  have HV0 := Lib.hid R_0.lt
  have hxp : rowPairsR ((pl.length : Int) :: PR pl) = if pairsB pl then (pl, true) else ([], false) := by
    cases hb : pairsB pl with
    | true => rw [rowPairsR_yes rfl hb]; rfl
    | false => rw [rowPairsR_no (fun l h => by injection h with _ h2; rw [← PR_inj h2]; exact hb)]; rfl
  have hxq : rowOrdersR ((ql.length : Int) :: JB ql) = if jobsB ql then (ql, true) else ([], false) := by
    cases hb : jobsB ql with
    | true => rw [rowOrdersR_yes rfl hb]; rfl
    | false => rw [rowOrdersR_no (fun l h => by injection h with _ h2; rw [← JB_inj h2]; exact hb)]; rfl
  have hxl : rowLeaseL [sh, se, su] = if leaseB sh se su then ((sh, se, su), true) else ((0, 0, 0), false) := by
    cases hb : leaseB sh se su with
    | true => unfold rowLeaseL; simp [hb]
    | false => unfold rowLeaseL; simp [hb]
  obtain ⟨bp, hbp⟩ : ∃ x, pairsB pl = x := ⟨_, rfl⟩
  obtain ⟨bq, hbq⟩ : ∃ x, jobsB ql = x := ⟨_, rfl⟩
  obtain ⟨bl, hbl⟩ : ∃ x, leaseB sh se su = x := ⟨_, rfl⟩
  rw [hbp] at hxp
  rw [hbq] at hxq
  rw [hbl] at hxl
  have HCS := Lib.hid (And.intro hcs (And.intro hbp (And.intro hbq hbl)))
  clear hcs
  have hall : ok = true → bp = true ∧ bq = true ∧ bl = true := fun h => by
    have h2 := HOK.out
    rw [h] at h2
    unfold stOk stateB at h2
    simp only [Bool.and_eq_true] at h2
    rw [← hbp, ← hbq, ← hbl]
    exact ⟨h2.2.2.1, h2.2.2.2.1, h2.2.2.2.2.1⟩
  have HALL := Lib.hid hall
  obtain ⟨⟨xp, yp⟩, hxp2⟩ : ∃ x, rowPairsR ((pl.length : Int) :: PR pl) = x := ⟨_, rfl⟩
  obtain ⟨⟨xq, yq⟩, hxq2⟩ : ∃ x, rowOrdersR ((ql.length : Int) :: JB ql) = x := ⟨_, rfl⟩
  obtain ⟨⟨⟨l0, l1, l2⟩, yl⟩, hxl2⟩ : ∃ x, rowLeaseL [sh, se, su] = x := ⟨_, rfl⟩
  have hXP := hxp2.symm.trans hxp
  have hXQ := hxq2.symm.trans hxq
  have hXL := hxl2.symm.trans hxl
  clear hxp hxq hxl
  have HXX := Lib.hid (And.intro hXP (And.intro hXQ hXL))
  clear hXP hXQ hXL
  have xpl : xp.length ≤ 10 := by have := rowPairsR_len ((pl.length : Int) :: PR pl); rw [hxp2] at this; exact this
  have xql : xq.length ≤ 10 := by have := rowOrdersR_len ((ql.length : Int) :: JB ql); rw [hxq2] at this; exact this
  have e1 := specRowPairsR_any (some ⟨b, off + 2, none⟩) (at1 - 2) (cap - 2) _ v0 (S1.out v0 F_0) (by unfold maxLen; omega)
  rw [hxp2] at e1
  simp only at e1
  have HQ2 := Lib.hid hxq2
  have HL2 := Lib.hid hxl2
  clear hbp hbq hbl hall hxp2 hxq2 hxl2
  refine e1.mono ?_
  rintro e w1 ⟨A1, c1, rfl, P_1, b1⟩
  have F_1 := bthen F_0 b1
  have R_1 := R_0.below b1
  have z1 := b1.size
  clear R_0 e1
  have e2 := specRowOrdersR_any (some ⟨b, off + at1, none⟩) (n - 3 - at1) (cap - at1) _ w1 (S2.out w1 F_1) (by unfold maxLen; omega)
  rw [HQ2.out] at e2
  have e3 := fun (v : World) (hv : Below w.heap.size w v) => specRowLease_any (some ⟨b, off + (n - 3), none⟩) (n - (n - 3)) (cap - (n - 3)) _ v (S3.out v hv) (by unfold maxLen; omega)
  rw [HL2.out] at e3
  have E3 := Lib.hid e3
  clear e3
  simp only at e2
  go_wp2_with fail
  refine e2.mono ?_
  rintro e w2 ⟨A2, c2, rfl, Q_2, b2⟩
  clear e2
  have F_2 := bthen F_1 b2
  have R_2 := R_1.below b2
  have P_2 := P_1.below b2
  have LP := Lib.hid P_1.lt
  have z2 := b2.size
  clear R_1 P_1
  go_wp2_with fail
  refine (E3.out w2 F_2).mono ?_
  rintro e w3 ⟨rfl, b3⟩
  simp only
  have F_3 := bthen F_2 b3
  have R_3 := R_2.below b3
  have P_3 := P_2.below b3
  have Q_3 := Q_2.below b3
  have z3 := b3.size
  clear R_2 P_2 Q_2 F_2 b1 b2 b3
  go_wp2_with fail
  obtain ⟨w4, hw⟩ : ∃ x : World, x = w3.alloc (.cells #[.int .i64 l0, .int .i64 l1, .int .i64 l2] 32) := ⟨_, rfl⟩
  rw [← hw]
  have L_4 : Blk w4 w3.heap.size 32 #[.int .i64 l0, .int .i64 l1, .int .i64 l2] := by rw [hw]; exact Blk.new_at _ _ _ _ rfl
  have F_4 : Below w.heap.size w w4 := by rw [hw]; exact F_3.alloc F_3.size _
  have R_4 : Blk w4 w.heap.size 34 #[.int .i64 0, .int .i64 0, .slice none 0 0, .slice none 0 0, .int .i64 0, .int .i64 0, .int .i64 0] := by rw [hw]; exact R_3.alloc _
  have P_4 := P_3.alloc (.cells #[.int .i64 l0, .int .i64 l1, .int .i64 l2] 32)
  have Q_4 := Q_3.alloc (.cells #[.int .i64 l0, .int .i64 l1, .int .i64 l2] 32)
  rw [← hw] at P_4 Q_4
  clear hw R_3 P_3 Q_3 F_3
  have c0 : w4.cell? ⟨b, off, none⟩ = some (.int .i64 si) := (F_4.cell (p := ⟨b, off, none⟩) hb).trans hc0
  have c1' : w4.cell? ⟨b, off + 1, none⟩ = some (.int .i64 st) := (F_4.cell (p := ⟨b, off + 1, none⟩) hb).trans hc1
  have hb4 := Nat.lt_of_lt_of_le hb F_4.size
  have k0 := L_4.cell 0
  have k1 := L_4.cell 1
  have k2 := L_4.cell 2
  have kl := L_4.lt
  have hn0 : (0 : Int) < (n : Int) := by omega
  have hn1 : (1 : Int) < (n : Int) := by omega
  go_region
  clear c0 c1' k0 k1 k2 kl hb4 hn0 hn1
  have HZ := Lib.hid (And.intro z1 (And.intro z2 z3))
  have R_5 : Blk ((w4.alloc (.cells #[.int .i64 si, .int .i64 st, .slice A1 xp.length c1, .slice A2 xq.length c2, .int .i64 l0, .int .i64 l1, .int .i64 l2] 34)).drew) w.heap.size 34 #[.int .i64 0, .int .i64 0, .slice none 0 0, .slice none 0 0, .int .i64 0, .int .i64 0, .int .i64 0] := Blk.drew (R_4.alloc _)
  have N_5 : Blk ((w4.alloc (.cells #[.int .i64 si, .int .i64 st, .slice A1 xp.length c1, .slice A2 xq.length c2, .int .i64 l0, .int .i64 l1, .int .i64 l2] 34)).drew) w4.heap.size 34 #[.int .i64 si, .int .i64 st, .slice A1 xp.length c1, .slice A2 xq.length c2, .int .i64 l0, .int .i64 l1, .int .i64 l2] := Blk.drew (Blk.new_at _ _ _ _ rfl)
  have P_5 := (P_4.alloc (.cells #[.int .i64 si, .int .i64 st, .slice A1 xp.length c1, .slice A2 xq.length c2, .int .i64 l0, .int .i64 l1, .int .i64 l2] 34)).drew
  have Q_5 := (Q_4.alloc (.cells #[.int .i64 si, .int .i64 st, .slice A1 xp.length c1, .slice A2 xq.length c2, .int .i64 l0, .int .i64 l1, .int .i64 l2] 34)).drew
  have F_5 : Below w.heap.size w ((w4.alloc (.cells #[.int .i64 si, .int .i64 st, .slice A1 xp.length c1, .slice A2 xq.length c2, .int .i64 l0, .int .i64 l1, .int .i64 l2] 34)).drew) := (F_4.alloc F_4.size _).drew
  generalize ((w4.alloc (.cells #[.int .i64 si, .int .i64 st, .slice A1 xp.length c1, .slice A2 xq.length c2, .int .i64 l0, .int .i64 l1, .int .i64 l2] 34)).drew) = w5 at R_5 N_5 P_5 Q_5 F_5 ⊢
  clear R_4 L_4 P_4 Q_4 F_4
  have NF := Lib.hid F_5
  obtain ⟨hcs, hbp, hbq, hbl⟩ := HCS.out
  obtain ⟨hXP, hXQ, hXL⟩ := HXX.out
  clear HCS HXX HQ2 HL2
  obtain rfl : bp = true := hbp.symm.trans hcs.1
  obtain rfl : bq = true := hbq.symm.trans hcs.2.1
  obtain rfl : bl = true := hbl.symm.trans hcs.2.2.1
  obtain rfl : ok = false := HOK.out.symm.trans hcs.2.2.2
  simp only [if_true, Prod.mk.injEq] at hXP
  obtain ⟨rfl, rfl⟩ := hXP
  simp only [if_true, Prod.mk.injEq] at hXQ
  obtain ⟨rfl, rfl⟩ := hXQ
  simp only [if_true, Prod.mk.injEq] at hXL
  obtain ⟨⟨rfl, rfl, rfl⟩, rfl⟩ := hXL
  clear hcs hbp hbq hbl
  have e5 := specStateOk_any A1 xp.length c1 A2 xq.length c2 si st l0 l1 l2 xp xq w5 P_5.sl Q_5.sl rfl rfl (by unfold maxLen; omega) (by unfold maxLen; omega)
  rw [show stateB si st l0 l1 l2 xp xq = false from HOK.out] at e5
  have nl := N_5.lt
  have n0 := N_5.cell 0
  have n1 := N_5.cell 1
  have n2 := N_5.cell 2
  have n3 := N_5.cell 3
  have n4 := N_5.cell 4
  have n5 := N_5.cell 5
  have n6 := N_5.cell 6
  go_wp2_with fail
  refine e5.mono ?_
  rintro e w6 ⟨rfl, b6⟩
  (try clear hw1); (try clear hw2); (try clear hw3); (try clear hw4); (try clear hw5); (try clear hw6); (try clear hw7); (try clear h7i); (try clear h67i); (try clear hgei); (try clear hlti); (try clear hin); (try clear hin2); (try clear hx); (try clear hn3); (try clear hl1); (try clear hl2); (try clear hl3); (try clear hl4); (try clear hl5); (try clear hl6); (try clear hl7); (try clear hl8); (try clear hc0); (try clear hc1); (try clear hc2); (try clear hc3); (try clear hb); (try clear hn); (try clear hc); (try clear hp10); (try clear hq8); (try clear xpl); (try clear xql); (try clear hs2); (try clear hs3); (try clear HS); (try clear HAT); (try clear S1); (try clear S2); (try clear S3); (try clear HNRX); (try clear E3); (try clear HOK); (try clear HALL)
  clear nl n0 n1 n2 n3 n4 n5 n6 e5
  have R_6 := R_5.below b6
  have N_6 := N_5.below b6
  have P_6 := P_5.below b6
  have Q_6 := Q_5.below b6
  have NF6 := Lib.hid (bthen NF.out b6)
  have lP := P_5.lt
  clear R_5 N_5 P_5 Q_5 b6
  have e0 := HNR.out
  simp only [Bool.false_eq_true, if_false] at e0
  subst e0
  have rRl := R_6.lt
  have rR0 := R_6.cell 0
  have rRz0 := R_6.frozen 0
  have rR1 := R_6.cell 1
  have rRz1 := R_6.frozen 1
  have rR2 := R_6.cell 2
  have rRz2 := R_6.frozen 2
  have rR3 := R_6.cell 3
  have rRz3 := R_6.frozen 3
  have rR4 := R_6.cell 4
  have rRz4 := R_6.frozen 4
  have rR5 := R_6.cell 5
  have rRz5 := R_6.frozen 5
  have rR6 := R_6.cell 6
  have rRz6 := R_6.frozen 6
  go_wp2
  refine bodyPost_ret (v := .tuple #[.agg #[.int .i64 0, .int .i64 0, .slice none 0 0, .slice none 0 0, .int .i64 0, .int .i64 0, .int .i64 0], .bool false]) (by simp [results, Try.results28, go_sem, *]) rfl (retSt_nil (seven_below NF6.out (Nat.le_refl _) _ _ _ _ _ _ _))
  
set_option maxRecDepth 100000 in
set_option maxHeartbeats 8000000 in
theorem specNumbersState_row5 (A : Option Addr) (n cap : Nat) (zs : List Int) (w : World) (hS : Sl w 1 A n zs) (hn : n ≤ maxLen) (hc : n ≤ cap) (p q : Nat) (hsh : Shape zs p q) (hcase : ∀ s, zs = numRow s → pairsB s.p = true ∧ jobsB s.q = true ∧ leaseB s.h s.e s.u = true ∧ stOk s = true) :
    Calls Try.prog 28 #[.slice A n cap] w (RetStB w (numR zs).1 (numR zs).2) := by
  have HS := Lib.hid (fun (w' : World) (hB : Below w.heap.size w w') => hS.below hB)
  have hlen := hS.len
  obtain ⟨s, hs1, hs2, hs3, hs4, hs5, hs6, hs7, hs8⟩ := shape_row hsh
  have hnr := numR_at hs1
  obtain ⟨hp10, hq8, hln, hz2, hz3⟩ := hsh
  obtain ⟨at1, hat⟩ : ∃ x : Nat, x = 3 + 2 * p := ⟨_, rfl⟩
  rw [← hat] at hz3
  have hlen2 : n = at1 + 1 + 5 * q + 3 := by omega
  unfold maxLen at hn
  obtain ⟨b, off, rfl, hb, hcc⟩ := hS.at_ (by omega)
  have hc0 : w.cell? ⟨b, off, none⟩ = some (.int .i64 (zs.getD 0 0)) := hcc 0 (by omega)
  have hc1 := hcc 1 (by omega)
  have hc2 := hcc 2 (by omega)
  have hc3 := hcc at1 (by omega)
  rw [hz2] at hc2
  rw [hz3] at hc3
  obtain ⟨⟨si, st, pl, ql, sh, se, su⟩, hse⟩ : ∃ s' : Stt, s = s' := ⟨_, rfl⟩
  subst hse
  simp only at hs2 hs3 hs4 hs5 hs6 hs7 hs8
  rw [← hs4] at hc0
  rw [← hs5] at hc1
  have r1 : (zs.drop 2).take (at1 - 2) = (pl.length : Int) :: PR pl := by
    rw [drop_cons (by omega : 2 < zs.length), hz2, show at1 - 2 = 2 * p + 1 by omega, List.take_succ_cons, hs6, hs2]
  have r2 : (zs.drop at1).take (n - 3 - at1) = (ql.length : Int) :: JB ql := by
    rw [drop_cons (by omega : at1 < zs.length), hz3, show n - 3 - at1 = 5 * q + 1 by omega, List.take_succ_cons, show at1 + 1 = 4 + 2 * p by omega, hs7, hs3]
  have r3 : (zs.drop (n - 3)).take (n - (n - 3)) = [sh, se, su] := by rw [show n - (n - 3) = 3 by omega, show n - 3 = 4 + 2 * p + 5 * q by omega, hs8]; rfl
  have S1 := Lib.hid (fun (w' : World) (hB : Below w.heap.size w w') => r1 ▸ sl_part (HS.out w' hB) 2 (at1 - 2) (by omega))
  have S2 := Lib.hid (fun (w' : World) (hB : Below w.heap.size w w') => r2 ▸ sl_part (HS.out w' hB) at1 (n - 3 - at1) (by omega))
  have S3 := Lib.hid (fun (w' : World) (hB : Below w.heap.size w w') => r3 ▸ sl_part (HS.out w' hB) (n - 3) (n - (n - 3)) (by omega))
  have hcs := hcase _ hs1
  clear r1 r2 r3 hs1 hs4 hs5 hs6 hs7 hs8 hcc hS hlen hln hz2 hz3
  have HS23 := Lib.hid (And.intro hs2 hs3)
  clear hs2 hs3
  have h7i : ¬ (n : Int) < 7 := by omega
  have h67i : ¬ (67 : Int) < (n : Int) := by omega
  have hx : (2 : Int) < (n : Int) := by omega
  have hin : inB (p : Int) 0 10 = true := (inB_iff _ _ _).2 (by omega)
  have hin2 : inB (q : Int) 0 8 = true := (inB_iff _ _ _).2 (by omega)
  have hw1 : IntKind.i64.wrap (2 * (p : Int)) = 2 * (p : Int) := by rw [IntKind.wrap_i64]; omega
  have hw2 : IntKind.i64.wrap (3 + 2 * (p : Int)) = (at1 : Int) := by rw [IntKind.wrap_i64]; omega
  have hgei : ¬ (n : Int) ≤ (at1 : Int) := by omega
  have hlti : (at1 : Int) < (n : Int) := by omega
  have hw3 : IntKind.i64.wrap ((at1 : Int) + 1) = (at1 : Int) + 1 := by rw [IntKind.wrap_i64]; omega
  have hw4 : IntKind.i64.wrap (5 * (q : Int)) = 5 * (q : Int) := by rw [IntKind.wrap_i64]; omega
  have hw5 : IntKind.i64.wrap ((at1 : Int) + 1 + 5 * (q : Int)) = (at1 : Int) + 1 + 5 * (q : Int) := by rw [IntKind.wrap_i64]; omega
  have hw6 : IntKind.i64.wrap ((at1 : Int) + 1 + 5 * (q : Int) + 3) = (n : Int) := by rw [IntKind.wrap_i64]; omega
  have hw7 : IntKind.i64.wrap ((n : Int) - 3) = ((n - 3 : Nat) : Int) := by rw [IntKind.wrap_i64]; omega
  have hn3 : (3 : Int) ≤ (n : Int) := by omega
  have hl1 : (2 : Int) ≤ (at1 : Int) := by omega
  have hl2 : (at1 : Int) ≤ (cap : Int) := by omega
  have hl3 : (at1 : Int) ≤ ((n - 3 : Nat) : Int) := by omega
  have hl4 : ((n - 3 : Nat) : Int) ≤ (cap : Int) := by omega
  have hl5 : ((n - 3 : Nat) : Int) ≤ (n : Int) := by omega
  have hl6 : ¬ cap = 2 := by omega
  have hl7 : ¬ cap = at1 := by omega
  have hl8 : ¬ cap = n - 3 := by omega
  simp only at hcs
  obtain ⟨ok, hok⟩ : ∃ x, stOk ⟨si, st, pl, ql, sh, se, su⟩ = x := ⟨_, rfl⟩
  rw [hok] at hnr
  generalize numR zs = r at hnr ⊢
  have HNR := Lib.hid hnr
  have HOK := Lib.hid hok
  have HAT := Lib.hid (And.intro hat hlen2)
  clear hnr hok hat hlen2
  go_enter Try.func28, Try.ntmps28
  go_wp2_with ((go_at_call 37; refine (l1In_any _ _ _ _).mono ?_; rintro e w' ⟨rfl, rfl⟩))
  obtain ⟨v0, hv⟩ : ∃ x : World, x = w.alloc (.cells #[.int .i64 0, .int .i64 0, .slice none 0 0, .slice none 0 0, .int .i64 0, .int .i64 0, .int .i64 0] 34) := ⟨_, rfl⟩
  rw [← hv]
  have F_0 : Below w.heap.size w v0 := by rw [hv]; exact (Below.refl _ _).alloc (Nat.le_refl _) _
  have R_0 : Blk v0 w.heap.size 34 #[.int .i64 0, .int .i64 0, .slice none 0 0, .slice none 0 0, .int .i64 0, .int .i64 0, .int .i64 0] := by rw [hv]; exact Blk.new_at _ _ _ _ rfl
  clear hv
  have HV0 := Lib.hid R_0.lt
  have hxp : rowPairsR ((pl.length : Int) :: PR pl) = if pairsB pl then (pl, true) else ([], false) := by
    cases hb : pairsB pl with
    | true => rw [rowPairsR_yes rfl hb]; rfl
    | false => rw [rowPairsR_no (fun l h => by injection h with _ h2; rw [← PR_inj h2]; exact hb)]; rfl
  have hxq : rowOrdersR ((ql.length : Int) :: JB ql) = if jobsB ql then (ql, true) else ([], false) := by
    cases hb : jobsB ql with
    | true => rw [rowOrdersR_yes rfl hb]; rfl
    | false => rw [rowOrdersR_no (fun l h => by injection h with _ h2; rw [← JB_inj h2]; exact hb)]; rfl
  have hxl : rowLeaseL [sh, se, su] = if leaseB sh se su then ((sh, se, su), true) else ((0, 0, 0), false) := by
    cases hb : leaseB sh se su with
    | true => unfold rowLeaseL; simp [hb]
    | false => unfold rowLeaseL; simp [hb]
  obtain ⟨bp, hbp⟩ : ∃ x, pairsB pl = x := ⟨_, rfl⟩
  obtain ⟨bq, hbq⟩ : ∃ x, jobsB ql = x := ⟨_, rfl⟩
  obtain ⟨bl, hbl⟩ : ∃ x, leaseB sh se su = x := ⟨_, rfl⟩
  rw [hbp] at hxp
  rw [hbq] at hxq
  rw [hbl] at hxl
  have HCS := Lib.hid (And.intro hcs (And.intro hbp (And.intro hbq hbl)))
  clear hcs
  have hall : ok = true → bp = true ∧ bq = true ∧ bl = true := fun h => by
    have h2 := HOK.out
    rw [h] at h2
    unfold stOk stateB at h2
    simp only [Bool.and_eq_true] at h2
    rw [← hbp, ← hbq, ← hbl]
    exact ⟨h2.2.2.1, h2.2.2.2.1, h2.2.2.2.2.1⟩
  have HALL := Lib.hid hall
  obtain ⟨⟨xp, yp⟩, hxp2⟩ : ∃ x, rowPairsR ((pl.length : Int) :: PR pl) = x := ⟨_, rfl⟩
  obtain ⟨⟨xq, yq⟩, hxq2⟩ : ∃ x, rowOrdersR ((ql.length : Int) :: JB ql) = x := ⟨_, rfl⟩
  obtain ⟨⟨⟨l0, l1, l2⟩, yl⟩, hxl2⟩ : ∃ x, rowLeaseL [sh, se, su] = x := ⟨_, rfl⟩
  have hXP := hxp2.symm.trans hxp
  have hXQ := hxq2.symm.trans hxq
  have hXL := hxl2.symm.trans hxl
  clear hxp hxq hxl
  have HXX := Lib.hid (And.intro hXP (And.intro hXQ hXL))
  clear hXP hXQ hXL
  have xpl : xp.length ≤ 10 := by have := rowPairsR_len ((pl.length : Int) :: PR pl); rw [hxp2] at this; exact this
  have xql : xq.length ≤ 10 := by have := rowOrdersR_len ((ql.length : Int) :: JB ql); rw [hxq2] at this; exact this
  have e1 := specRowPairsR_any (some ⟨b, off + 2, none⟩) (at1 - 2) (cap - 2) _ v0 (S1.out v0 F_0) (by unfold maxLen; omega)
  rw [hxp2] at e1
  simp only at e1
  have HQ2 := Lib.hid hxq2
  have HL2 := Lib.hid hxl2
  clear hbp hbq hbl hall hxp2 hxq2 hxl2
  refine e1.mono ?_
  rintro e w1 ⟨A1, c1, rfl, P_1, b1⟩
  have F_1 := bthen F_0 b1
  have R_1 := R_0.below b1
  have z1 := b1.size
  clear R_0 e1
  have e2 := specRowOrdersR_any (some ⟨b, off + at1, none⟩) (n - 3 - at1) (cap - at1) _ w1 (S2.out w1 F_1) (by unfold maxLen; omega)
  rw [HQ2.out] at e2
  have e3 := fun (v : World) (hv : Below w.heap.size w v) => specRowLease_any (some ⟨b, off + (n - 3), none⟩) (n - (n - 3)) (cap - (n - 3)) _ v (S3.out v hv) (by unfold maxLen; omega)
  rw [HL2.out] at e3
  have E3 := Lib.hid e3
  clear e3
  simp only at e2
  go_wp2_with fail
  refine e2.mono ?_
  rintro e w2 ⟨A2, c2, rfl, Q_2, b2⟩
  clear e2
  have F_2 := bthen F_1 b2
  have R_2 := R_1.below b2
  have P_2 := P_1.below b2
  have LP := Lib.hid P_1.lt
  have z2 := b2.size
  clear R_1 P_1
  go_wp2_with fail
  refine (E3.out w2 F_2).mono ?_
  rintro e w3 ⟨rfl, b3⟩
  simp only
  have F_3 := bthen F_2 b3
  have R_3 := R_2.below b3
  have P_3 := P_2.below b3
  have Q_3 := Q_2.below b3
  have z3 := b3.size
  clear R_2 P_2 Q_2 F_2 b1 b2 b3
  go_wp2_with fail
  obtain ⟨w4, hw⟩ : ∃ x : World, x = w3.alloc (.cells #[.int .i64 l0, .int .i64 l1, .int .i64 l2] 32) := ⟨_, rfl⟩
  rw [← hw]
  have L_4 : Blk w4 w3.heap.size 32 #[.int .i64 l0, .int .i64 l1, .int .i64 l2] := by rw [hw]; exact Blk.new_at _ _ _ _ rfl
  have F_4 : Below w.heap.size w w4 := by rw [hw]; exact F_3.alloc F_3.size _
  have R_4 : Blk w4 w.heap.size 34 #[.int .i64 0, .int .i64 0, .slice none 0 0, .slice none 0 0, .int .i64 0, .int .i64 0, .int .i64 0] := by rw [hw]; exact R_3.alloc _
  have P_4 := P_3.alloc (.cells #[.int .i64 l0, .int .i64 l1, .int .i64 l2] 32)
  have Q_4 := Q_3.alloc (.cells #[.int .i64 l0, .int .i64 l1, .int .i64 l2] 32)
  rw [← hw] at P_4 Q_4
  clear hw R_3 P_3 Q_3 F_3
  have c0 : w4.cell? ⟨b, off, none⟩ = some (.int .i64 si) := (F_4.cell (p := ⟨b, off, none⟩) hb).trans hc0
  have c1' : w4.cell? ⟨b, off + 1, none⟩ = some (.int .i64 st) := (F_4.cell (p := ⟨b, off + 1, none⟩) hb).trans hc1
  have hb4 := Nat.lt_of_lt_of_le hb F_4.size
  have k0 := L_4.cell 0
  have k1 := L_4.cell 1
  have k2 := L_4.cell 2
  have kl := L_4.lt
  have hn0 : (0 : Int) < (n : Int) := by omega
  have hn1 : (1 : Int) < (n : Int) := by omega
  go_region
  clear c0 c1' k0 k1 k2 kl hb4 hn0 hn1
  have HZ := Lib.hid (And.intro z1 (And.intro z2 z3))
  have R_5 : Blk ((w4.alloc (.cells #[.int .i64 si, .int .i64 st, .slice A1 xp.length c1, .slice A2 xq.length c2, .int .i64 l0, .int .i64 l1, .int .i64 l2] 34)).drew) w.heap.size 34 #[.int .i64 0, .int .i64 0, .slice none 0 0, .slice none 0 0, .int .i64 0, .int .i64 0, .int .i64 0] := Blk.drew (R_4.alloc _)
  have N_5 : Blk ((w4.alloc (.cells #[.int .i64 si, .int .i64 st, .slice A1 xp.length c1, .slice A2 xq.length c2, .int .i64 l0, .int .i64 l1, .int .i64 l2] 34)).drew) w4.heap.size 34 #[.int .i64 si, .int .i64 st, .slice A1 xp.length c1, .slice A2 xq.length c2, .int .i64 l0, .int .i64 l1, .int .i64 l2] := Blk.drew (Blk.new_at _ _ _ _ rfl)
  have P_5 := (P_4.alloc (.cells #[.int .i64 si, .int .i64 st, .slice A1 xp.length c1, .slice A2 xq.length c2, .int .i64 l0, .int .i64 l1, .int .i64 l2] 34)).drew
  have Q_5 := (Q_4.alloc (.cells #[.int .i64 si, .int .i64 st, .slice A1 xp.length c1, .slice A2 xq.length c2, .int .i64 l0, .int .i64 l1, .int .i64 l2] 34)).drew
  have F_5 : Below w.heap.size w ((w4.alloc (.cells #[.int .i64 si, .int .i64 st, .slice A1 xp.length c1, .slice A2 xq.length c2, .int .i64 l0, .int .i64 l1, .int .i64 l2] 34)).drew) := (F_4.alloc F_4.size _).drew
  generalize ((w4.alloc (.cells #[.int .i64 si, .int .i64 st, .slice A1 xp.length c1, .slice A2 xq.length c2, .int .i64 l0, .int .i64 l1, .int .i64 l2] 34)).drew) = w5 at R_5 N_5 P_5 Q_5 F_5 ⊢
  clear R_4 L_4 P_4 Q_4 F_4
  have NF := Lib.hid F_5
  obtain ⟨hcs, hbp, hbq, hbl⟩ := HCS.out
  obtain ⟨hXP, hXQ, hXL⟩ := HXX.out
  clear HCS HXX HQ2 HL2
  obtain rfl : bp = true := hbp.symm.trans hcs.1
  obtain rfl : bq = true := hbq.symm.trans hcs.2.1
  obtain rfl : bl = true := hbl.symm.trans hcs.2.2.1
  obtain rfl : ok = true := HOK.out.symm.trans hcs.2.2.2
  simp only [if_true, Prod.mk.injEq] at hXP
  obtain ⟨rfl, rfl⟩ := hXP
  simp only [if_true, Prod.mk.injEq] at hXQ
  obtain ⟨rfl, rfl⟩ := hXQ
  simp only [if_true, Prod.mk.injEq] at hXL
  obtain ⟨⟨rfl, rfl, rfl⟩, rfl⟩ := hXL
  clear hcs hbp hbq hbl
  have e5 := specStateOk_any A1 xp.length c1 A2 xq.length c2 si st l0 l1 l2 xp xq w5 P_5.sl Q_5.sl rfl rfl (by unfold maxLen; omega) (by unfold maxLen; omega)
  rw [show stateB si st l0 l1 l2 xp xq = true from HOK.out] at e5
  have nl := N_5.lt
  have n0 := N_5.cell 0
  have n1 := N_5.cell 1
  have n2 := N_5.cell 2
  have n3 := N_5.cell 3
  have n4 := N_5.cell 4
  have n5 := N_5.cell 5
  have n6 := N_5.cell 6
  go_wp2_with fail
  refine e5.mono ?_
  rintro e w6 ⟨rfl, b6⟩
  (try clear hw1); (try clear hw2); (try clear hw3); (try clear hw4); (try clear hw5); (try clear hw6); (try clear hw7); (try clear h7i); (try clear h67i); (try clear hgei); (try clear hlti); (try clear hin); (try clear hin2); (try clear hx); (try clear hn3); (try clear hl1); (try clear hl2); (try clear hl3); (try clear hl4); (try clear hl5); (try clear hl6); (try clear hl7); (try clear hl8); (try clear hc0); (try clear hc1); (try clear hc2); (try clear hc3); (try clear hb); (try clear hn); (try clear hc); (try clear hp10); (try clear hq8); (try clear xpl); (try clear xql); (try clear hs2); (try clear hs3); (try clear HS); (try clear HAT); (try clear S1); (try clear S2); (try clear S3); (try clear HNRX); (try clear E3); (try clear HOK); (try clear HALL)
  clear nl n0 n1 n2 n3 n4 n5 n6 e5
  have R_6 := R_5.below b6
  have N_6 := N_5.below b6
  have P_6 := P_5.below b6
  have Q_6 := Q_5.below b6
  have NF6 := Lib.hid (bthen NF.out b6)
  have lP := P_5.lt
  clear R_5 N_5 P_5 Q_5 b6
  have e0 := HNR.out
  simp only [if_true] at e0
  subst e0
  have nl := N_6.lt
  have n0 := N_6.cell 0
  have n1 := N_6.cell 1
  have n2 := N_6.cell 2
  have n3 := N_6.cell 3
  have n4 := N_6.cell 4
  have n5 := N_6.cell 5
  have n6 := N_6.cell 6
  have rRl := R_6.lt
  have rR0 := R_6.cell 0
  have rRz0 := R_6.frozen 0
  have rR1 := R_6.cell 1
  have rRz1 := R_6.frozen 1
  have rR2 := R_6.cell 2
  have rRz2 := R_6.frozen 2
  have rR3 := R_6.cell 3
  have rRz3 := R_6.frozen 3
  have rR4 := R_6.cell 4
  have rRz4 := R_6.frozen 4
  have rR5 := R_6.cell 5
  have rRz5 := R_6.frozen 5
  have rR6 := R_6.cell 6
  have rRz6 := R_6.frozen 6
  have gP : ∀ a, A1 = some a → v0.heap.size ≤ a.block := P_6.ge
  have gQ : ∀ a, A2 = some a → w1.heap.size ≤ a.block := Q_6.ge
  have hv0 : w.heap.size < v0.heap.size := HV0.out
  have hz1 := HZ.out.1
  have hneP : ∀ a, A1 = some a → a.block ≠ w.heap.size := fun a ha => by have := gP a ha; omega
  have hneQ : ∀ a, A2 = some a → a.block ≠ w.heap.size := fun a ha => by have := gQ a ha; omega
  have hap : ∀ a b, A1 = some a → A2 = some b → a.block ≠ b.block := fun a b ha hb => by have h1 := LP.out a ha; have h2 := gQ b hb; omega
  have HX := Lib.hid (And.intro (And.intro hneP hneQ) hap)
  have HPX := Lib.hid (P_6.mono (show w.heap.size ≤ v0.heap.size by omega))
  have HQX := Lib.hid (Q_6.mono (show w.heap.size ≤ w1.heap.size by omega))
  clear hneP hneQ hap gP gQ lP P_6 Q_6 hz1 hv0
  go_wp2
  refine bodyPost_ret (v := .tuple #[.agg #[.int .i64 si, .int .i64 st, .slice A1 xp.length c1, .slice A2 xq.length c2, .int .i64 l0, .int .i64 l1, .int .i64 l2], .bool true]) (by simp [results, Try.results28, go_sem, *]) rfl ?_
  exact ⟨A1, c1, A2, c2, rfl, seven_sets HPX.out HX.out.1.1 _ _ _ _ _ _ _, seven_sets HQX.out HX.out.1.2 _ _ _ _ _ _ _, HX.out.2, seven_below NF6.out (Nat.le_refl _) _ _ _ _ _ _ _⟩
end Go.Proofs.Ytodkcanhlpgpgaa
