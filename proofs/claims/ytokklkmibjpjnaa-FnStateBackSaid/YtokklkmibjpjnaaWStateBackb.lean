/- The walk of the law FnStateBack. -/
import Derived.Test.YtokklkmibjpjnaaBd7
import Derived.Deep.DeepCutAuto
import Derived.Deep.RegionHeldLaw
namespace Go.Proofs.Ytokklkmibjpjnaa
set_option linter.unusedSimpArgs false
set_option linter.unusedVariables false
attribute [local go_sem] n_lt2 n_lt3 n_lt4 n_le2 n_le3
open Go.RowKit
attribute [local go_sem] Ext.cell Ext.frozen
theorem s9_ad {v : World} {s n : Nat} {A : Option Addr} {zs : List Int} {x : Obj} (h : Sl v s A n zs) : Sl (v.drew.alloc x) s A n zs := (Sl.drew h).alloc x
theorem s9_da {v : World} {s n : Nat} {A : Option Addr} {zs : List Int} {x : Obj} (h : Sl v s A n zs) : Sl (v.alloc x).drew s A n zs := (h.alloc x).drew
theorem eqL_refl (a : List Int) : eqL a a = true := by simp [eqL]
theorem sameState_self {i0 t0 l0 l1 l2 : Int} {pl : List Pr} {ql : List Jb} (h : stateB i0 t0 l0 l1 l2 pl ql = true) : sameStateB i0 t0 l0 l1 l2 pl ql i0 t0 l0 l1 l2 pl ql = true := by
  have h1 := (stateB_parts h).1
  have h2 := (stateB_parts h).2.1
  unfold sameStateB samePairsB sameJobsB
  rw [h, h1, h2, eqL_refl, eqL_refl]
  simp
theorem sameState_no {i0 t0 l0 l1 l2 j0 u0 k0 k1 k2 : Int} {pl pl2 : List Pr} {ql ql2 : List Jb} (h : stateB i0 t0 l0 l1 l2 pl ql = false ∨ stateB j0 u0 k0 k1 k2 pl2 ql2 = false) : sameStateB i0 t0 l0 l1 l2 pl ql j0 u0 k0 k1 k2 pl2 ql2 = false := by
  unfold sameStateB
  rcases h with h | h
  · rw [h]; rfl
  · rw [h]; simp
theorem sameState_like {i0 t0 l0 l1 l2 j0 u0 k0 k1 k2 : Int} {pl pl2 : List Pr} {ql ql2 : List Jb} (h : stateB i0 t0 l0 l1 l2 pl ql = true) (h2 : stateB j0 u0 k0 k1 k2 pl2 ql2 = true) : eqL (stateNumL i0 t0 l0 l1 l2 pl ql) (stateNumL j0 u0 k0 k1 k2 pl2 ql2) = sameStateB i0 t0 l0 l1 l2 pl ql j0 u0 k0 k1 k2 pl2 ql2 := by
  have p1 := (stateB_parts h).1
  have p2 := (stateB_parts h).2.1
  have p3 := (stateB_parts h2).1
  have p4 := (stateB_parts h2).2.1
  have e1 : stateNumL i0 t0 l0 l1 l2 pl ql = numRow ⟨i0, t0, pl, ql, l0, l1, l2⟩ := by unfold stateNumL; rw [if_pos h]; rfl
  have e2 : stateNumL j0 u0 k0 k1 k2 pl2 ql2 = numRow ⟨j0, u0, pl2, ql2, k0, k1, k2⟩ := by unfold stateNumL; rw [if_pos h2]; rfl
  rw [e1, e2, Bool.eq_iff_iff]
  constructor
  · intro hq
    have hs := numRow_inj (eqL_true hq)
    injection hs with s1 s2 s3 s4 s5 s6 s7
    subst s1 s2 s3 s4 s5 s6 s7
    exact sameState_self h
  · intro hq
    unfold sameStateB samePairsB sameJobsB at hq
    rw [h, h2, p1, p2, p3, p4] at hq
    simp only [Bool.true_and, Bool.and_eq_true, beq_iff_eq] at hq
    obtain ⟨s1, s2, s3, s4, s5, s6, s7⟩ := hq
    have q3 := PR_inj (eqL_true s3)
    have q4 := JB_inj (eqL_true s4)
    subst s1 s2 q3 q4 s5 s6 s7
    exact eqL_refl _
theorem numR_nil : numR [] = (Stt.zero, false) := numR_no fun s hs => by
  have := congrArg List.length hs
  rw [numRow_len] at this
  simp at this
  omega
/-- The two states that were drawn, in their boxes. -/
structure BX (w v : World) (g3 g4 : Nat) (A_a : Option Addr) (n_a c_a : Nat) (B_a : Option Addr) (m_a d_a : Nat) (i_a t_a h_a e_a u_a : Int) (P_a : List Pr) (Q_a : List Jb) (A_b : Option Addr) (n_b c_b : Nat) (B_b : Option Addr) (m_b d_b : Nat) (i_b t_b h_b e_b u_b : Int) (P_b : List Pr) (Q_b : List Jb) : Prop where
  N3 : Blk v g3 29 #[.int .i64 i_a, .int .i64 t_a, .slice A_a n_a c_a, .slice B_a m_a d_a, .int .i64 h_a, .int .i64 e_a, .int .i64 u_a]
  N4 : Blk v g4 29 #[.int .i64 i_b, .int .i64 t_b, .slice A_b n_b c_b, .slice B_b m_b d_b, .int .i64 h_b, .int .i64 e_b, .int .i64 u_b]
  Pa : Sl v 2 A_a n_a (PR P_a)
  Qa : Sl v 5 B_a m_a (JB Q_a)
  Pb : Sl v 2 A_b n_b (PR P_b)
  Qb : Sl v 5 B_b m_b (JB Q_b)
  F : Below w.heap.size w v
  la : P_a.length = n_a
  lb : Q_a.length = m_a
  lc : P_b.length = n_b
  ld : Q_b.length = m_b
  ba : n_a ≤ maxLen
  bb : m_a ≤ maxLen
  bc : n_b ≤ maxLen
  bd : m_b ≤ maxLen
theorem BX.below {w v : World} {g3 g4 : Nat} {A_a : Option Addr} {n_a c_a : Nat} {B_a : Option Addr} {m_a d_a : Nat} {i_a t_a h_a e_a u_a : Int} {P_a : List Pr} {Q_a : List Jb} {A_b : Option Addr} {n_b c_b : Nat} {B_b : Option Addr} {m_b d_b : Nat} {i_b t_b h_b e_b u_b : Int} {P_b : List Pr} {Q_b : List Jb} {v2 : World} (h : BX w v g3 g4 A_a n_a c_a B_a m_a d_a i_a t_a h_a e_a u_a P_a Q_a A_b n_b c_b B_b m_b d_b i_b t_b h_b e_b u_b P_b Q_b) (hb : Below v.heap.size v v2) : BX w v2 g3 g4 A_a n_a c_a B_a m_a d_a i_a t_a h_a e_a u_a P_a Q_a A_b n_b c_b B_b m_b d_b i_b t_b h_b e_b u_b P_b Q_b :=
  ⟨h.N3.below hb, h.N4.below hb, h.Pa.below hb, h.Qa.below hb, h.Pb.below hb, h.Qb.below hb, btr h.F (hb.mono h.F.size), h.la, h.lb, h.lc, h.ld, h.ba, h.bb, h.bc, h.bd⟩
set_option maxRecDepth 100000 in
set_option maxHeartbeats 8000000 in
theorem law_StateBack (A : Option Addr) (n cap : Nat) (bs : List Int) (w : World) (hS : SlB w A n bs) (hnc : n ≤ cap) (hcm : cap ≤ maxLen) :
    Calls Try.prog 3 #[.slice A n cap] w fun e' w' => e' = .returned (.bool true) ∧ Below w.heap.size w w' := by
  have hm0 : n ≤ maxLen := Nat.le_trans hnc hcm
  by_cases hbig : 4096 < n
  · have hd : decide (4096 < n) = true := decide_eq_true hbig
    have cb := big_any A n cap w hm0
    rw [hd] at cb
    clear hd hbig
    go_enter Try.func3, Try.ntmps3
    go_wp2_with fail
    refine cb.mono ?_
    rintro e w' ⟨rfl, rfl⟩
    go_wp2_with fail
    go_ret
    exact ⟨rfl, Below.refl _ _⟩
  have hd : decide (4096 < n) = false := decide_eq_false hbig
  have cb := big_any A n cap w hm0
  rw [hd] at cb
  have HSB := Lib.hid hS
  have hn4 : n ≤ 4096 := by omega
  clear hd hS hbig
  go_enter Try.func3, Try.ntmps3
  go_wp2_with fail
  refine cb.mono ?_
  rintro e w' ⟨rfl, rfl⟩
  clear cb
  go_wp2_with fail
  refine (DrawSameState_any A n cap bs w HSB.out hn4).mono ?_
  rintro e v1 ⟨A_a, n_a, c_a, B_a, m_a, d_a, i_a, t_a, h_a, e_a, u_a, P_a, Q_a, A_b, n_b, c_b, B_b, m_b, d_b, i_b, t_b, h_b, e_b, u_b, P_b, Q_b, rfl, la, lb, lc, ld, ba, bb, bc, bd, SPa, SQa, SPb, SQb, F1⟩
  clear HSB
  go_wp2_with fail
  refine calls_named ?_
  rintro v2 hv2
  obtain ⟨g3, hg3⟩ : ∃ g, g = v1.heap.size := ⟨_, rfl⟩
  obtain ⟨g4, hg4⟩ : ∃ g, g = v1.heap.size + 1 := ⟨_, rfl⟩
  have H2 : Hid (BX w v2 g3 g4 A_a n_a c_a B_a m_a d_a i_a t_a h_a e_a u_a P_a Q_a A_b n_b c_b B_b m_b d_b i_b t_b h_b e_b u_b P_b Q_b) := by
    have b2 : Below v1.heap.size v1 v2 := by rw [hv2]; (repeat' (first | (with_reducible exact Below.refl _ _) | (with_reducible assumption) | (with_reducible refine Below.alloc ?_ ?_ _) | (with_reducible refine Below.drew ?_) | (with_reducible refine Below.setCell ?_ ?_ _) | (with_reducible refine bstep (by assumption) ?_ ?_) | (with_reducible exact Nat.le_refl _) | omega | (simp [*]; done) | (simp [*]; omega)))
    have N3 : Blk v2 g3 29 #[.int .i64 i_a, .int .i64 t_a, .slice A_a n_a c_a, .slice B_a m_a d_a, .int .i64 h_a, .int .i64 e_a, .int .i64 u_a] := by rw [hv2]; exact (Blk.new_at _ _ _ _ hg3).alloc _
    have N4 : Blk v2 g4 29 #[.int .i64 i_b, .int .i64 t_b, .slice A_b n_b c_b, .slice B_b m_b d_b, .int .i64 h_b, .int .i64 e_b, .int .i64 u_b] := by rw [hv2]; exact Blk.new_at _ _ _ _ (by rw [hg4]; simp)
    exact Lib.hid ⟨N3, N4, SPa.below b2, SQa.below b2, SPb.below b2, SQb.below b2, btr F1 (b2.mono F1.size), la, lb, lc, ld, by unfold maxLen; omega, by unfold maxLen; omega, by unfold maxLen; omega, by unfold maxLen; omega⟩
  try rw [← hg4]
  try rw [← hg3]
  clear hv2 hg3 hg4 la lb lc ld ba bb bc bd SPa SQa SPb SQb F1
  obtain ⟨zn, hzn⟩ : ∃ z, stateNumL i_a t_a h_a e_a u_a P_a Q_a = z := ⟨_, rfl⟩
  obtain ⟨kn, hkn⟩ : ∃ k, zn.length = k := ⟨_, rfl⟩
  have hkl : kn ≤ 67 := by rw [← hkn, ← hzn]; exact stateNumL_len _ _ _ _ _ _ _
  have c1 := stateNumbers_any A_a n_a c_a B_a m_a d_a i_a t_a h_a e_a u_a P_a Q_a v2 H2.out.Pa H2.out.Qa H2.out.la H2.out.lb H2.out.ba H2.out.bb
  rw [hzn, hkn] at c1
  refine c1.mono ?_
  rintro e v3 ⟨An, cn, rfl, Rn, b3⟩
  clear c1
  have H3 := Lib.hid (H2.out.below b3)
  have HRn := Lib.hid Rn
  clear Rn b3 H2
  cases hsa : stateB i_a t_a h_a e_a u_a P_a Q_a with
  | false =>
    have hzr : zn = [] := by rw [← hzn]; unfold stateNumL; rw [if_neg (by rw [hsa]; decide)]
    have HSA := Lib.hid hsa
    have HZR := Lib.hid hzr
    clear hsa hzr hzn hkn
    have hR : SParts (numR zn) 0 0 0 0 0 0 0 [] [] false := by
      rw [HZR.out, numR_nil]
      exact ⟨rfl, rfl, rfl, rfl, rfl, rfl, rfl, rfl, rfl, rfl⟩
    have HR := Lib.hid hR
    clear hR
    go_wp2_with fail
    refine (numbersState_r An kn cn zn v3 HRn.out.sl (by omega) HRn.out.cap_le.1 HRn.out.cap_le.2 HRn.out.lt HR.out).mono ?_
    rintro e v4 ⟨Ac, cc, Bc, dc, rfl, Rp, Rq, hap, b4⟩
    have H4 := Lib.hid (H3.out.below b4)
    have HRp := Lib.hid Rp
    have HRq := Lib.hid Rq
    clear Rp Rq hap b4 H3 HRn HR
    go_upto_region 5 with fail
    obtain ⟨v5, hv5⟩ : ∃ x : World, x = (v4.alloc (.cells #[.int .i64 0, .int .i64 0, .slice Ac 0 cc, .slice Bc 0 dc, .int .i64 0, .int .i64 0, .int .i64 0] 29)) := ⟨_, rfl⟩
    rw [← hv5]
    obtain ⟨g5, hg5⟩ : ∃ g, g = v4.heap.size := ⟨_, rfl⟩
    have b5 : Below v4.heap.size v4 v5 := by rw [hv5]; exact ((Below.refl _ _).alloc (Nat.le_refl _) _)
    have K5 : Hid (Blk v5 g5 29 #[.int .i64 0, .int .i64 0, .slice Ac 0 cc, .slice Bc 0 dc, .int .i64 0, .int .i64 0, .int .i64 0]) := by rw [hv5, hg5]; exact Lib.hid (Blk.new_at _ _ _ _ rfl)
    have H5 := Lib.hid (H4.out.below b5)
    have SP5 := Lib.hid (HRp.out.sl.below b5)
    have SQ5 := Lib.hid (HRq.out.sl.below b5)
    try rw [← hg5]
    clear hv5 b5 H4 HRp HRq hg5
    have a_l := H5.out.N3.lt
    obtain ⟨a_0, a_1, a_2, a_3, a_4, a_5, a_6⟩ := bc7 H5.out.N3
    have cs := specStateOk_any A_a n_a c_a B_a m_a d_a i_a t_a h_a e_a u_a P_a Q_a v5 H5.out.Pa H5.out.Qa H5.out.la H5.out.lb H5.out.ba H5.out.bb
    rw [HSA.out] at cs
    go_wp2_with fail
    refine cs.mono ?_
    rintro e v6 ⟨rfl, b6⟩
    clear cs
    clear a_l a_0 a_1 a_2 a_3 a_4 a_5 a_6
    have H6 := Lib.hid (H5.out.below b6)
    clear H5 b6
    clear SP5 SQ5 K5
    have a_l := H6.out.N3.lt
    obtain ⟨a_0, a_1, a_2, a_3, a_4, a_5, a_6⟩ := bc7 H6.out.N3
    have b_l := H6.out.N4.lt
    obtain ⟨b_0, b_1, b_2, b_3, b_4, b_5, b_6⟩ := bc7 H6.out.N4
    have HNO := Lib.hid (sameState_no (Or.inl HSA.out) : sameStateB i_a t_a h_a e_a u_a P_a Q_a i_b t_b h_b e_b u_b P_b Q_b = false)
    have cs := sameState_any A_a n_a c_a B_a m_a d_a i_a t_a h_a e_a u_a A_b n_b c_b B_b m_b d_b i_b t_b h_b e_b u_b P_a Q_a P_b Q_b v6 H6.out.Pa H6.out.Qa H6.out.Pb H6.out.Qb H6.out.la H6.out.lb H6.out.lc H6.out.ld H6.out.ba H6.out.bb H6.out.bc H6.out.bd
    rw [HNO.out] at cs
    go_wp2_with fail
    refine cs.mono ?_
    rintro e v7 ⟨rfl, b7⟩
    clear cs
    clear a_l a_0 a_1 a_2 a_3 a_4 a_5 a_6 b_l b_0 b_1 b_2 b_3 b_4 b_5 b_6
    have H7 := Lib.hid (H6.out.below b7)
    clear H6 b7
    go_wp2_with fail
    go_ret
    exact ⟨rfl, H7.out.F⟩

  | true =>
    have hzr : zn = numRow ⟨i_a, t_a, P_a, Q_a, h_a, e_a, u_a⟩ := by rw [← hzn]; unfold stateNumL; rw [if_pos hsa]; rfl
    have HSA := Lib.hid hsa
    have HZR := Lib.hid hzr
    have HZN := Lib.hid hzn
    have hkn2_ := Lib.hid hkn
    clear hsa hzr hzn hkn
    have hR : SParts (numR zn) i_a t_a h_a e_a u_a n_a m_a (PR P_a) (JB Q_a) true := by
      rw [numR_yes HZR.out HSA.out]
      exact ⟨rfl, rfl, rfl, rfl, rfl, H3.out.la, H3.out.lb, rfl, rfl, rfl⟩
    have HR := Lib.hid hR
    clear hR
    go_wp2_with fail
    refine (numbersState_r An kn cn zn v3 HRn.out.sl (by omega) HRn.out.cap_le.1 HRn.out.cap_le.2 HRn.out.lt HR.out).mono ?_
    rintro e v4 ⟨Ac, cc, Bc, dc, rfl, Rp, Rq, hap, b4⟩
    have H4 := Lib.hid (H3.out.below b4)
    have HRp := Lib.hid Rp
    have HRq := Lib.hid Rq
    clear Rp Rq hap b4 H3 HRn HR
    go_upto_region 5 with fail
    obtain ⟨v5, hv5⟩ : ∃ x : World, x = (v4.alloc (.cells #[.int .i64 i_a, .int .i64 t_a, .slice Ac n_a cc, .slice Bc m_a dc, .int .i64 h_a, .int .i64 e_a, .int .i64 u_a] 29)) := ⟨_, rfl⟩
    rw [← hv5]
    obtain ⟨g5, hg5⟩ : ∃ g, g = v4.heap.size := ⟨_, rfl⟩
    have b5 : Below v4.heap.size v4 v5 := by rw [hv5]; exact ((Below.refl _ _).alloc (Nat.le_refl _) _)
    have K5 : Hid (Blk v5 g5 29 #[.int .i64 i_a, .int .i64 t_a, .slice Ac n_a cc, .slice Bc m_a dc, .int .i64 h_a, .int .i64 e_a, .int .i64 u_a]) := by rw [hv5, hg5]; exact Lib.hid (Blk.new_at _ _ _ _ rfl)
    have H5 := Lib.hid (H4.out.below b5)
    have SP5 := Lib.hid (HRp.out.sl.below b5)
    have SQ5 := Lib.hid (HRq.out.sl.below b5)
    try rw [← hg5]
    clear hv5 b5 H4 HRp HRq hg5
    have a_l := H5.out.N3.lt
    obtain ⟨a_0, a_1, a_2, a_3, a_4, a_5, a_6⟩ := bc7 H5.out.N3
    have c_l := K5.out.lt
    obtain ⟨c_0, c_1, c_2, c_3, c_4, c_5, c_6⟩ := bc7 K5.out
    have cs := specStateOk_any A_a n_a c_a B_a m_a d_a i_a t_a h_a e_a u_a P_a Q_a v5 H5.out.Pa H5.out.Qa H5.out.la H5.out.lb H5.out.ba H5.out.bb
    rw [HSA.out] at cs
    go_wp2_with fail
    refine cs.mono ?_
    rintro e v6 ⟨rfl, b6⟩
    clear cs
    clear a_l a_0 a_1 a_2 a_3 a_4 a_5 a_6 c_l c_0 c_1 c_2 c_3 c_4 c_5 c_6
    have H6 := Lib.hid (H5.out.below b6)
    have SP6 := Lib.hid (SP5.out.below b6)
    have SQ6 := Lib.hid (SQ5.out.below b6)
    have K6 := Lib.hid (K5.out.below b6)
    clear H5 b6 SP5 SQ5 K5
    have a_l := H6.out.N3.lt
    obtain ⟨a_0, a_1, a_2, a_3, a_4, a_5, a_6⟩ := bc7 H6.out.N3
    have c_l := K6.out.lt
    obtain ⟨c_0, c_1, c_2, c_3, c_4, c_5, c_6⟩ := bc7 K6.out
    have cs := specSameState_any Ac n_a cc Bc m_a dc i_a t_a h_a e_a u_a A_a n_a c_a B_a m_a d_a i_a t_a h_a e_a u_a P_a Q_a P_a Q_a v6 SP6.out SQ6.out H6.out.Pa H6.out.Qa H6.out.la H6.out.lb H6.out.la H6.out.lb H6.out.ba H6.out.bb H6.out.ba H6.out.bb
    rw [sameState_self HSA.out] at cs
    go_wp2_with fail
    refine cs.mono ?_
    rintro e v7 ⟨rfl, b7⟩
    clear cs
    clear a_l a_0 a_1 a_2 a_3 a_4 a_5 a_6 c_l c_0 c_1 c_2 c_3 c_4 c_5 c_6
    have H7 := Lib.hid (H6.out.below b7)
    clear H6 b7
    clear SP6 SQ6 K6
    cases hsb : stateB i_b t_b h_b e_b u_b P_b Q_b with
    | false =>
      have b_l := H7.out.N4.lt
      obtain ⟨b_0, b_1, b_2, b_3, b_4, b_5, b_6⟩ := bc7 H7.out.N4
      have cs := specStateOk_any A_b n_b c_b B_b m_b d_b i_b t_b h_b e_b u_b P_b Q_b v7 H7.out.Pb H7.out.Qb H7.out.lc H7.out.ld H7.out.bc H7.out.bd
      rw [hsb] at cs
      have HNO := Lib.hid (sameState_no (Or.inr hsb) : sameStateB i_a t_a h_a e_a u_a P_a Q_a i_b t_b h_b e_b u_b P_b Q_b = false)
      clear hsb
      go_wp2_with fail
      refine cs.mono ?_
      rintro e v8 ⟨rfl, b8⟩
      clear cs
      clear b_l b_0 b_1 b_2 b_3 b_4 b_5 b_6
      have H8 := Lib.hid (H7.out.below b8)
      clear H7 b8
      have a_l := H8.out.N3.lt
      obtain ⟨a_0, a_1, a_2, a_3, a_4, a_5, a_6⟩ := bc7 H8.out.N3
      have b_l := H8.out.N4.lt
      obtain ⟨b_0, b_1, b_2, b_3, b_4, b_5, b_6⟩ := bc7 H8.out.N4
      have cs := sameState_any A_a n_a c_a B_a m_a d_a i_a t_a h_a e_a u_a A_b n_b c_b B_b m_b d_b i_b t_b h_b e_b u_b P_a Q_a P_b Q_b v8 H8.out.Pa H8.out.Qa H8.out.Pb H8.out.Qb H8.out.la H8.out.lb H8.out.lc H8.out.ld H8.out.ba H8.out.bb H8.out.bc H8.out.bd
      rw [HNO.out] at cs
      go_wp2_with fail
      refine cs.mono ?_
      rintro e v9 ⟨rfl, b9⟩
      clear cs
      clear a_l a_0 a_1 a_2 a_3 a_4 a_5 a_6 b_l b_0 b_1 b_2 b_3 b_4 b_5 b_6
      have H9 := Lib.hid (H8.out.below b9)
      clear H8 b9
      go_wp2_with fail
      go_ret
      exact ⟨rfl, H9.out.F⟩

    | true =>
      have b_l := H7.out.N4.lt
      obtain ⟨b_0, b_1, b_2, b_3, b_4, b_5, b_6⟩ := bc7 H7.out.N4
      have cs := specStateOk_any A_b n_b c_b B_b m_b d_b i_b t_b h_b e_b u_b P_b Q_b v7 H7.out.Pb H7.out.Qb H7.out.lc H7.out.ld H7.out.bc H7.out.bd
      rw [hsb] at cs
      have HSB := Lib.hid hsb
      clear hsb
      go_wp2_with fail
      refine cs.mono ?_
      rintro e v8 ⟨rfl, b8⟩
      clear cs
      clear b_l b_0 b_1 b_2 b_3 b_4 b_5 b_6
      have H8 := Lib.hid (H7.out.below b8)
      clear H7 b8
      have HLK := Lib.hid (sameState_like HSA.out HSB.out)
      obtain ⟨zb, hzb⟩ : ∃ z, stateNumL i_b t_b h_b e_b u_b P_b Q_b = z := ⟨_, rfl⟩
      obtain ⟨kb, hkb⟩ : ∃ k, zb.length = k := ⟨_, rfl⟩
      obtain ⟨sv, hsv⟩ : ∃ s, sameStateB i_a t_a h_a e_a u_a P_a Q_a i_b t_b h_b e_b u_b P_b Q_b = s := ⟨_, rfl⟩
      have hkbl : kb ≤ 67 := by rw [← hkb, ← hzb]; exact stateNumL_len _ _ _ _ _ _ _
      have hkn2 : zn.length = kn := hkn2_.out
      rw [HZN.out, hzb, hsv] at HLK
      have HZB := Lib.hid hzb
      have HKB := Lib.hid hkb
      have HKN := Lib.hid hkn2
      have HSV := Lib.hid hsv
      have hkm : kn ≤ maxLen := by unfold maxLen; omega
      have hkm2 : kb ≤ maxLen := by unfold maxLen; omega
      clear hzb hkb hkn2 hsv
      have a_l := H8.out.N3.lt
      obtain ⟨a_0, a_1, a_2, a_3, a_4, a_5, a_6⟩ := bc7 H8.out.N3
      have b_l := H8.out.N4.lt
      obtain ⟨b_0, b_1, b_2, b_3, b_4, b_5, b_6⟩ := bc7 H8.out.N4
      go_upto_region 9 with fail
      have hS0 : ∀ b o, b < v8.heap.size → v8.drew.cell? ⟨b, o, none⟩ = v8.cell? ⟨b, o, none⟩ := fun b o hb => rfl
      go_region_held_law (fun w' => ∀ b o, b < v8.heap.size → w'.cell? ⟨b, o, none⟩ = v8.cell? ⟨b, o, none⟩) (first | with_reducible assumption) (first | (go_at_call 10; have hcc := sameState_any A_a n_a c_a B_a m_a d_a i_a t_a h_a e_a u_a A_b n_b c_b B_b m_b d_b i_b t_b h_b e_b u_b P_a Q_a P_b Q_b v8.drew (Sl.drew H8.out.Pa) (Sl.drew H8.out.Qa) (Sl.drew H8.out.Pb) (Sl.drew H8.out.Qb) H8.out.la H8.out.lb H8.out.lc H8.out.ld H8.out.ba H8.out.bb H8.out.bc H8.out.bd; rw [HSV.out] at hcc; (with_reducible refine hcc.mono ?_); rintro e u1 ⟨rfl, b1_⟩; have G1 : Below v8.heap.size v8 u1 := (by first | with_reducible exact b1_ | with_reducible exact tb_dr b1_ | with_reducible exact tb_al b1_ | with_reducible exact tb_da b1_ | with_reducible exact tb_ad b1_); have E1 : Below v8.heap.size v8 u1 := G1; have hS1 : ∀ b o, b < v8.heap.size → u1.cell? ⟨b, o, none⟩ = v8.cell? ⟨b, o, none⟩ := fun b o hb => E1.cell (p := ⟨b, o, none⟩) hb; have J1 := Lib.hid (H8.out.below E1)) | (go_at_call 7; have hcc := stateNumbers_any A_a n_a c_a B_a m_a d_a i_a t_a h_a e_a u_a P_a Q_a u1 J1.out.Pa J1.out.Qa J1.out.la J1.out.lb J1.out.ba J1.out.bb; rw [HZN.out, HKN.out] at hcc; (with_reducible refine hcc.mono ?_); rintro e u2 ⟨Ax, cx, rfl, Rx, b2_⟩; have G2 : Below u1.heap.size u1 u2 := (by first | with_reducible exact b2_ | with_reducible exact tb_dr b2_ | with_reducible exact tb_al b2_ | with_reducible exact tb_da b2_ | with_reducible exact tb_ad b2_); have E2 : Below v8.heap.size v8 u2 := bthen E1 G2; have hS2 : ∀ b o, b < v8.heap.size → u2.cell? ⟨b, o, none⟩ = v8.cell? ⟨b, o, none⟩ := fun b o hb => E2.cell (p := ⟨b, o, none⟩) hb; have J2 := Lib.hid (J1.out.below G2); have HRx := Lib.hid Rx) | (go_at_call 7; have hcc := stateNumbers_any A_b n_b c_b B_b m_b d_b i_b t_b h_b e_b u_b P_b Q_b u2 J2.out.Pb J2.out.Qb J2.out.lc J2.out.ld J2.out.bc J2.out.bd; rw [HZB.out, HKB.out] at hcc; (with_reducible refine hcc.mono ?_); rintro e u3 ⟨Ay, cy, rfl, Ry, b3_⟩; have G3 : Below u2.heap.size u2 u3 := (by first | with_reducible exact b3_ | with_reducible exact tb_dr b3_ | with_reducible exact tb_al b3_ | with_reducible exact tb_da b3_ | with_reducible exact tb_ad b3_); have E3 : Below v8.heap.size v8 u3 := bthen E2 G3; have hS3 : ∀ b o, b < v8.heap.size → u3.cell? ⟨b, o, none⟩ = v8.cell? ⟨b, o, none⟩ := fun b o hb => E3.cell (p := ⟨b, o, none⟩) hb; have HRy := Lib.hid Ry; have HRx3 := Lib.hid (HRx.out.below G3)) | (go_at_call 11; have hcc := likeInts_any Ax Ay kn kb cx cy zn zb u3 HRx3.out.sl HRy.out.sl hkm hkm2; rw [HLK.out] at hcc; (with_reducible refine hcc.mono ?_); rintro e u4 ⟨rfl, b4_⟩; have G4 : Below u3.heap.size u3 u4 := (by first | with_reducible exact b4_ | with_reducible exact tb_dr b4_ | with_reducible exact tb_al b4_ | with_reducible exact tb_da b4_ | with_reducible exact tb_ad b4_); have E4 : Below v8.heap.size v8 u4 := bthen E3 G4; have hS4 : ∀ b o, b < v8.heap.size → u4.cell? ⟨b, o, none⟩ = v8.cell? ⟨b, o, none⟩ := fun b o hb => E4.cell (p := ⟨b, o, none⟩) hb))
      all_goals go_wp2_with fail
      all_goals go_ret
      all_goals exact ⟨by simp, btr H8.out.F (E4.mono H8.out.F.size)⟩


end Go.Proofs.Ytokklkmibjpjnaa
