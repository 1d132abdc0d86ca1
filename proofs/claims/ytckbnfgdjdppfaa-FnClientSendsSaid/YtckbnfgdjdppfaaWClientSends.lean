/- The walk of the law FnClientSends. -/
import Derived.Test.YtckbnfgdjdppfaaCS1
import Derived.Deep.LoopGhost
import Derived.Deep.DeepCutAuto
import Derived.Deep.RegionWith
import Derived.BigQuiet
namespace Go.Proofs.Ytckbnfgdjdppfaa
set_option linter.unusedSimpArgs false
set_option linter.unusedVariables false
attribute [local go_sem] n_lt2 n_lt3 n_lt4 n_le2 n_le3
open Go.RowKit
attribute [local go_sem] Ext.cell Ext.frozen

set_option maxRecDepth 100000 in
set_option maxHeartbeats 8000000 in
theorem law_ClientSends (A : Option Addr) (n cap : Nat) (bs : List Int) (w : World) (hS : SlB w A n bs) (hnc : n ≤ cap) (hcm : cap ≤ maxLen) :
    Calls Try.prog 3 #[.slice A n cap] w fun e' w' => e' = .returned (.bool true) ∧ Below w.heap.size w w' := by
  have hm0 : n ≤ maxLen := Nat.le_trans hnc hcm
  by_cases hbig : 4096 < n
  · have hd : decide (4096 < n) = true := decide_eq_true hbig
    have cb := big_any A n cap w hm0
    rw [hd] at cb
    clear hd hbig
    go_enter Try.func3, Try.ntmps3
    go_wp2_with fail
    refine cb.mono ?_
    rintro e w' ⟨rfl, rfl⟩
    go_wp2_with fail
    go_ret
    exact ⟨rfl, Below.refl _ _⟩
  have hd : decide (4096 < n) = false := decide_eq_false hbig
  have cb := big_any A n cap w hm0
  rw [hd] at cb
  have HSB := Lib.hid hS
  have hn4 : n ≤ 4096 := by omega
  clear hd hS hbig
  go_enter Try.func3, Try.ntmps3
  go_wp2_with fail
  refine cb.mono ?_
  rintro e w' ⟨rfl, rfl⟩
  clear cb
  go_wp2_with fail
  refine (roll_dc A n cap bs 932 w HSB.out hn4 (by omega)).mono ?_
  rintro e w1 ⟨rfl, D1, b1⟩
  clear HSB
  obtain ⟨p, hp⟩ : ∃ p, p = w.heap.size := ⟨_, rfl⟩
  rw [← hp] at D1 ⊢
  have F1 : Below p w w1 := by rw [hp]; exact b1
  have HP := Lib.hid hp
  clear b1 hp
  go_wp2_with fail
  refine (below_dc p 6 w1 D1 (by omega)).mono ?_
  rintro e w2 ⟨x, rfl, ⟨x0, x1⟩, D2, W2⟩
  have F2 : Below p w w2 := W2.below F1 (Nat.le_of_lt D1.lt) (fun a ha => by obtain rfl := Option.some.inj ha; exact Nat.le_refl _)
  clear D1 W2 F1
  obtain ⟨N, rfl⟩ : ∃ N : Nat, x = (N : Int) := ⟨x.toNat, by omega⟩
  go_wp2_with fail
  refine (w9Wants_any p N w2 D2 (by omega)).mono ?_
  rintro e w3 ⟨A2, c2, wl, rfl, hl, hwb, R3, D3, W3⟩
  have F3 : Below p w w3 := W3.below F2 (Nat.le_of_lt D2.lt) (fun a ha => by obtain rfl := Option.some.inj ha; exact Nat.le_refl _)
  have hp2 := D2.lt
  have hp3 := D3.lt
  have T3 := R3.mono (show p + 1 ≤ _ from hp2)
  have L3 := R3.lt
  clear D2 W3 F2
  have cnew := client_new hwb (by omega)
  have e1 := newClient_any A2 N c2 5 wl w3 R3.sl hl (by omega)
  rw [show newI 5 wl = 5 by unfold newI newB; rw [if_pos cnew], show newL 5 wl = wl by unfold newL newB; rw [if_pos cnew], hl] at e1
  have HC := Lib.hid (And.intro cnew hl)
  clear cnew hwb hl
  go_wp2_with fail
  refine e1.mono ?_
  rintro e w4 ⟨A4, c4, B4, d4, rfl, P4, Q4, _, b4⟩
  clear e1
  have z4 := b4.size
  have F4 : Below p w w4 := F3.trans (b4.mono (Nat.le_of_lt hp3))
  have D4 := D3.below b4 hp3
  have X4 := CB.fresh (t0 := 0) (P4.mono hp3) (Q4.mono hp3) (Nat.lt_of_lt_of_le hp3 z4)
  have D5 := D4.alloc (.cells #[.int .i64 5, .slice A4 N c4, .slice B4 0 d4, .int .i64 0] 32)
  have F5 : Below p w (w4.alloc (.cells #[.int .i64 5, .slice A4 N c4, .slice B4 0 d4, .int .i64 0] 32)) := F4.alloc (Nat.le_of_lt (Nat.lt_of_lt_of_le hp3 z4)) _
  have T5 := (T3.below b4).alloc (.cells #[.int .i64 5, .slice A4 N c4, .slice B4 0 d4, .int .i64 0] 32)
  obtain ⟨gx, hgx⟩ : ∃ g, g = w4.heap.size := ⟨_, rfl⟩
  rw [← hgx] at X4
  have N5 : ∀ a, A2 = some a → a.block < gx := fun a ha => by rw [hgx]; exact Nat.lt_of_lt_of_le (L3 a ha) z4
  have HX := Lib.hid (SX.mk X4 T5 N5 D5 F5)
  have HG := Lib.hid hgx
  clear X4 D5 F5 T5 N5 D3 D4 P4 Q4 b4 F3 F4 R3 T3 L3
  go_wp2_with fail
  rw [← hgx]
  go_loopg [6] N (fun gk kv wr => ∃ (k : Nat) (A : Option Addr) (c : Nat) (B : Option Addr) (d : Nat) (t0 : Int) (gl : List Gt), gk = N - k ∧ k ≤ N ∧ kv = .int .i64 k ∧ Hid (clientB 5 wl gl t0 = true) ∧ (0 ≤ t0 ∧ t0 ≤ 3 * (k : Int)) ∧ Hid (gl.length = k) ∧ Hid (SX w wr p gx A N c B k d t0 (WT wl) (GT gl) A2 c2))
  case atStart => exact ⟨0, A4, c4, B4, d4, 0, [], by omega, by omega, rfl, Lib.hid HC.out.1, ⟨by omega, by omega⟩, Lib.hid rfl, HX⟩
  case round =>
    clear hgx HG HX
    obtain ⟨k, A, c, B, d, t0, gl, rfl, hk, rfl, HB, ht0, HM, HX⟩ := hrel
    by_cases hlt : k < N
    · have hlt' : (k : Int) < (N : Int) := by omega
      have hwk : IntKind.i64.wrap ((k : Int) + 1) = (k : Int) + 1 := by rw [IntKind.wrap_i64]; omega
      obtain ⟨bw, ow, hA2, -, -⟩ := sl_wants HX.out.t.sl (by omega)
      subst hA2
      obtain ⟨q, hpk⟩ : ∃ q, wl.getD k default = q := ⟨_, rfl⟩
      obtain ⟨qk, qo, qa, qb, qc, qd, qy⟩ := q
      have HPK := Lib.hid hpk
      clear hpk
      by_cases h4 : qk = 4
      · subst h4
        have hsend : sendL 5 t0 wl gl = [⟨5, 1, [6, 5, (k : Int) + 1, qy, t0]⟩] := by unfold sendL sendM; rw [if_pos ⟨HB.out, by rw [HM.out, HC.out.2]; omega⟩, HM.out, HPK.out, if_pos rfl]
        have e1 := send_one A N c B k d t0 wl gl wr HX.out.x.P.sl HX.out.x.Q.sl HC.out.2 HM.out (by unfold maxLen; omega) (by unfold maxLen; omega) 5 1 [6, 5, (k : Int) + 1, qy, t0] 5 hsend rfl (by decide)
        have HV := Lib.hid (show readB 5 ((k : Int) + 1) qy t0 = true from send_read HB.out HM.out (by rw [HC.out.2]; exact hlt) HPK.out rfl)
        have HN := Lib.hid (numsRead HV.out)
        clear hsend
        have lt_X := HX.out.x.k.lt
        have r_X0 : wr.cell? ⟨gx, 0, none⟩ = some (.int .i64 5) := HX.out.x.k.cell 0
        have z_X0 := HX.out.x.k.frozen 0
        have r_X1 : wr.cell? ⟨gx, 1, none⟩ = some (.slice A N c) := HX.out.x.k.cell 1
        have z_X1 := HX.out.x.k.frozen 1
        have r_X2 : wr.cell? ⟨gx, 2, none⟩ = some (.slice B k d) := HX.out.x.k.cell 2
        have z_X2 := HX.out.x.k.frozen 2
        have r_X3 : wr.cell? ⟨gx, 3, none⟩ = some (.int .i64 t0) := HX.out.x.k.cell 3
        have z_X3 := HX.out.x.k.frozen 3
        go_wp2_with fail
        refine e1.mono ?_
        rintro e v1 ⟨g, r, rc, cs, rfl, hg, hr, hrc, hrm, KM1, RM1, b1⟩
        clear e1
        clear lt_X r_X0 z_X0 r_X1 z_X1 r_X2 z_X2 r_X3 z_X3
        have HX1 := Lib.hid (HX.out.below b1)
        have KM := Lib.hid KM1
        have RM := Lib.hid RM1
        clear HX KM1 RM1 b1
        have lt_M := KM.out.lt
        have r_M0 : v1.cell? ⟨g, 0, none⟩ = some (.int .i64 5) := KM.out.cell 0
        have r_M1 : v1.cell? ⟨g, 1, none⟩ = some (.int .i64 1) := KM.out.cell 1
        have r_M2 : v1.cell? ⟨g, 2, none⟩ = some (.slice (some ⟨r, 0, none⟩) 5 rc) := KM.out.cell 2
        go_wp2_with fail
        refine (msgOk_yes 5 1 (some ⟨r, 0, none⟩) 5 rc [6, 5, (k : Int) + 1, qy, t0] v1 (by decide) (by decide) (by decide) RM.out.sl (by decide) (by decide) HN.out).mono ?_
        rintro e v2 ⟨rfl, b2⟩
        clear lt_M r_M0 r_M1 r_M2
        have HX2 := Lib.hid (HX1.out.below b2)
        replace KM := Lib.hid (KM.out.below b2)
        replace RM := Lib.hid (RM.out.below b2)
        clear HX1 b2
        have e2 := allDone_any A N c B k d 5 t0 wl gl v2 HX2.out.x.P.sl HX2.out.x.Q.sl HC.out.2 HM.out (by unfold maxLen; omega) (by unfold maxLen; omega)
        rw [show doneB 5 wl gl t0 = false by unfold doneB; rw [decide_eq_false (by rw [HM.out, HC.out.2]; omega)]; simp] at e2
        have lt_X := HX2.out.x.k.lt
        have r_X0 : v2.cell? ⟨gx, 0, none⟩ = some (.int .i64 5) := HX2.out.x.k.cell 0
        have z_X0 := HX2.out.x.k.frozen 0
        have r_X1 : v2.cell? ⟨gx, 1, none⟩ = some (.slice A N c) := HX2.out.x.k.cell 1
        have z_X1 := HX2.out.x.k.frozen 1
        have r_X2 : v2.cell? ⟨gx, 2, none⟩ = some (.slice B k d) := HX2.out.x.k.cell 2
        have z_X2 := HX2.out.x.k.frozen 2
        have r_X3 : v2.cell? ⟨gx, 3, none⟩ = some (.int .i64 t0) := HX2.out.x.k.cell 3
        have z_X3 := HX2.out.x.k.frozen 3
        have lt_M := KM.out.lt
        have r_M0 : v2.cell? ⟨g, 0, none⟩ = some (.int .i64 5) := KM.out.cell 0
        have r_M1 : v2.cell? ⟨g, 1, none⟩ = some (.int .i64 1) := KM.out.cell 1
        have r_M2 : v2.cell? ⟨g, 2, none⟩ = some (.slice (some ⟨r, 0, none⟩) 5 rc) := KM.out.cell 2
        go_wp2_with fail
        refine e2.mono ?_
        rintro e v3 ⟨rfl, b3⟩
        clear e2
        clear lt_X r_X0 z_X0 r_X1 z_X1 r_X2 z_X2 r_X3 z_X3
        clear lt_M r_M0 r_M1 r_M2
        have HX3 := Lib.hid (HX2.out.below b3)
        replace KM := Lib.hid (KM.out.below b3)
        replace RM := Lib.hid (RM.out.below b3)
        clear HX2 b3
        have e3 := nextSeq_any A N c B k d 5 t0 wl gl v3 HX3.out.x.P.sl HX3.out.x.Q.sl HC.out.2 HM.out (by unfold maxLen; omega) (by unfold maxLen; omega)
        rw [show seqI 5 wl gl t0 = (k : Int) + 1 by unfold seqI pendS; rw [if_pos HB.out, if_neg (by rw [HM.out, HC.out.2]; omega), HM.out]] at e3
        have lt_X := HX3.out.x.k.lt
        have r_X0 : v3.cell? ⟨gx, 0, none⟩ = some (.int .i64 5) := HX3.out.x.k.cell 0
        have z_X0 := HX3.out.x.k.frozen 0
        have r_X1 : v3.cell? ⟨gx, 1, none⟩ = some (.slice A N c) := HX3.out.x.k.cell 1
        have z_X1 := HX3.out.x.k.frozen 1
        have r_X2 : v3.cell? ⟨gx, 2, none⟩ = some (.slice B k d) := HX3.out.x.k.cell 2
        have z_X2 := HX3.out.x.k.frozen 2
        have r_X3 : v3.cell? ⟨gx, 3, none⟩ = some (.int .i64 t0) := HX3.out.x.k.cell 3
        have z_X3 := HX3.out.x.k.frozen 3
        go_wp2_with fail
        refine e3.mono ?_
        rintro e v4 ⟨rfl, b4⟩
        clear e3
        clear lt_X r_X0 z_X0 r_X1 z_X1 r_X2 z_X2 r_X3 z_X3
        have HX4 := Lib.hid (HX3.out.below b4)
        replace KM := Lib.hid (KM.out.below b4)
        replace RM := Lib.hid (RM.out.below b4)
        clear HX3 b4
        obtain ⟨hbw, t0_, t1_, t2_, t3_, t4_, t5_, t6_⟩ := want_at HX4.out.t.sl hlt
        rw [HPK.out] at t0_ t1_ t2_ t3_ t4_ t5_ t6_
        simp only at t0_ t1_ t2_ t3_ t4_ t5_ t6_
        have lt_M := KM.out.lt
        have r_M0 : v4.cell? ⟨g, 0, none⟩ = some (.int .i64 5) := KM.out.cell 0
        have r_M1 : v4.cell? ⟨g, 1, none⟩ = some (.int .i64 1) := KM.out.cell 1
        have r_M2 : v4.cell? ⟨g, 2, none⟩ = some (.slice (some ⟨r, 0, none⟩) 5 rc) := KM.out.cell 2
        go_wp2_with fail
        clear hbw t0_ t1_ t2_ t3_ t4_ t5_ t6_
        clear lt_M r_M0 r_M1 r_M2
        refine (rowRead_yes r 0 rc 5 ((k : Int) + 1) qy t0 v4 RM.out.sl hrc hrm HV.out).mono ?_
        rintro e v5 ⟨rfl, b5⟩
        have HX5 := Lib.hid (HX4.out.below b5)
        replace KM := Lib.hid (KM.out.below b5)
        clear RM HX4 b5
        go_upto_region 14 with fail
        obtain ⟨v6, hv6⟩ : ∃ v : World, v = v5.alloc (.cells #[.int .i64 5, .int .i64 ((k : Int) + 1), .int .i64 qy, .int .i64 t0] 47) := ⟨_, rfl⟩
        rw [← hv6]
        obtain ⟨gr, hgr⟩ : ∃ q, q = v5.heap.size := ⟨_, rfl⟩
        try rw [← hgr]
        have KR : Hid (Blk v6 gr 47 #[.int .i64 5, .int .i64 ((k : Int) + 1), .int .i64 qy, .int .i64 t0]) := by rw [hv6, hgr]; exact Blk.new _ _ _
        have HX6 : Hid (SX w v6 p gx A N c B k d t0 (WT wl) (GT gl) (some ⟨bw, ow, none⟩) c2) := by rw [hv6]; exact HX5.out.alloc _
        have KM6 : Hid (Blk v6 g 38 #[.int .i64 5, .int .i64 1, .slice (some ⟨r, 0, none⟩) 5 rc]) := by rw [hv6]; exact KM.out.alloc _
        clear hv6 hgr HX5 KM
        have KM := KM6
        clear KM6
        have lt_X := HX6.out.x.k.lt
        have r_X0 : v6.cell? ⟨gx, 0, none⟩ = some (.int .i64 5) := HX6.out.x.k.cell 0
        have z_X0 := HX6.out.x.k.frozen 0
        have r_X1 : v6.cell? ⟨gx, 1, none⟩ = some (.slice A N c) := HX6.out.x.k.cell 1
        have z_X1 := HX6.out.x.k.frozen 1
        have r_X2 : v6.cell? ⟨gx, 2, none⟩ = some (.slice B k d) := HX6.out.x.k.cell 2
        have z_X2 := HX6.out.x.k.frozen 2
        have r_X3 : v6.cell? ⟨gx, 3, none⟩ = some (.int .i64 t0) := HX6.out.x.k.cell 3
        have z_X3 := HX6.out.x.k.frozen 3
        have lt_M := KM.out.lt
        have r_M0 : v6.cell? ⟨g, 0, none⟩ = some (.int .i64 5) := KM.out.cell 0
        have r_M1 : v6.cell? ⟨g, 1, none⟩ = some (.int .i64 1) := KM.out.cell 1
        have r_M2 : v6.cell? ⟨g, 2, none⟩ = some (.slice (some ⟨r, 0, none⟩) 5 rc) := KM.out.cell 2
        obtain ⟨hbw, t0_, t1_, t2_, t3_, t4_, t5_, t6_⟩ := want_at HX6.out.t.sl hlt
        rw [HPK.out] at t0_ t1_ t2_ t3_ t4_ t5_ t6_
        simp only at t0_ t1_ t2_ t3_ t4_ t5_ t6_
        have lt_R := KR.out.lt
        have r_R0 : v6.cell? ⟨gr, 0, none⟩ = some (.int .i64 5) := KR.out.cell 0
        have r_R1 : v6.cell? ⟨gr, 1, none⟩ = some (.int .i64 ((k : Int) + 1)) := KR.out.cell 1
        have r_R2 : v6.cell? ⟨gr, 2, none⟩ = some (.int .i64 qy) := KR.out.cell 2
        have r_R3 : v6.cell? ⟨gr, 3, none⟩ = some (.int .i64 t0) := KR.out.cell 3
        go_cut [104] (fun cv wx => cv = .bool false ∧ Hid (SX w wx p gx A N c B k d t0 (WT wl) (GT gl) (some ⟨bw, ow, none⟩) c2))
        case first =>
          go_quiet (fail)
          go_wp2_with fail
          go_meet
          first
            | exact ⟨rfl, Lib.hid (HX6.out.drewN _)⟩
            | exact ⟨rfl, Lib.hid HX6.out.drew⟩
            | exact ⟨rfl, HX6⟩
        case rest =>
          obtain ⟨rfl, HX7⟩ := hcut
          rename World => v7
          clear lt_X r_X0 z_X0 r_X1 z_X1 r_X2 z_X2 r_X3 z_X3
          clear lt_M r_M0 r_M1 r_M2
          clear hbw t0_ t1_ t2_ t3_ t4_ t5_ t6_
          clear lt_R r_R0 r_R1 r_R2 r_R3 HX6 KM KR
          go_upto_region 16 with fail
          go_cut [] (fun wx => ∃ (A' : Option Addr) (c' : Nat) (B' : Option Addr) (d' : Nat) (t' : Int) (gl' : List Gt), Hid (clientB 5 wl gl' t' = true) ∧ (0 ≤ t' ∧ t' ≤ 3 * ((k : Int) + 1)) ∧ Hid (gl'.length = k + 1) ∧ Hid (SX w wx p gx A' N c' B' (k + 1) d' t' (WT wl) (GT gl') (some ⟨bw, ow, none⟩) c2))
          case first =>
            have lt_X := HX7.out.x.k.lt
            have r_X0 : v7.cell? ⟨gx, 0, none⟩ = some (.int .i64 5) := HX7.out.x.k.cell 0
            have z_X0 := HX7.out.x.k.frozen 0
            have r_X1 : v7.cell? ⟨gx, 1, none⟩ = some (.slice A N c) := HX7.out.x.k.cell 1
            have z_X1 := HX7.out.x.k.frozen 1
            have r_X2 : v7.cell? ⟨gx, 2, none⟩ = some (.slice B k d) := HX7.out.x.k.cell 2
            have z_X2 := HX7.out.x.k.frozen 2
            have r_X3 : v7.cell? ⟨gx, 3, none⟩ = some (.int .i64 t0) := HX7.out.x.k.cell 3
            have z_X3 := HX7.out.x.k.frozen 3
            have hw1 : IntKind.i64.wrap (t0 + 1) = t0 + 1 := by rw [IntKind.wrap_i64]; omega
            go_region_with (first | (go_at_call 7; refine (below_dc p 3 _ ?_ ?_).mono ?_; (first | with_reducible exact HX7.out.drew.d | with_reducible exact HX7.out.d); decide; rintro e v8 ⟨y, rfl, ⟨y0, y1⟩, D, W⟩; have HX8 := Lib.hid (SX.dice_drew HX7.out (show Wrote v7.drew v8 _ from W) D); have kx0 : v8.cell? ⟨gx, 0, none⟩ = some (.int .i64 5) := HX8.out.x.k.cell 0; have kxz0 := HX8.out.x.k.frozen 0; have kx1 : v8.cell? ⟨gx, 1, none⟩ = some (.slice A N c) := HX8.out.x.k.cell 1; have kxz1 := HX8.out.x.k.frozen 1; have kx2 : v8.cell? ⟨gx, 2, none⟩ = some (.slice B k d) := HX8.out.x.k.cell 2; have kxz2 := HX8.out.x.k.frozen 2; have kx3 : v8.cell? ⟨gx, 3, none⟩ = some (.int .i64 t0) := HX8.out.x.k.cell 3; have kxz3 := HX8.out.x.k.frozen 3; have kxl := HX8.out.x.k.lt; have hwy : IntKind.i64.wrap (t0 + y) = (t0 + y) := by rw [IntKind.wrap_i64]; omega) | (go_at_call 14; refine (heardValue_on A N c B k d t0 (t0 + y) wl gl v8 HX8.out.x.P.sl HX8.out.x.Q.sl HC.out.2 HM.out HB.out hlt (by rw [HPK.out]) (by omega) (by omega) (by omega)).mono ?_; rintro e v9 ⟨A', c', B', d', gl', rfl, hg', hb', P9, Q9, b9⟩; have HX9 := Lib.hid (HX8.out.below b9); have ky0 : v9.cell? ⟨gx, 0, none⟩ = some (.int .i64 5) := HX9.out.x.k.cell 0; have kyz0 := HX9.out.x.k.frozen 0; have ky1 : v9.cell? ⟨gx, 1, none⟩ = some (.slice A N c) := HX9.out.x.k.cell 1; have kyz1 := HX9.out.x.k.frozen 1; have ky2 : v9.cell? ⟨gx, 2, none⟩ = some (.slice B k d) := HX9.out.x.k.cell 2; have kyz2 := HX9.out.x.k.frozen 2; have ky3 : v9.cell? ⟨gx, 3, none⟩ = some (.int .i64 t0) := HX9.out.x.k.cell 3; have kyz3 := HX9.out.x.k.frozen 3; have kyl := HX9.out.x.k.lt))
            all_goals
              go_wp2_with fail
              go_meet
              exact ⟨A', c', B', d', (t0 + y), gl', Lib.hid hb', ⟨by omega, by omega⟩, Lib.hid hg', Lib.hid (SX.on HX9.out HX8.out.d.lt HX8.out.x.k.lt P9 Q9)⟩
          case rest =>
            obtain ⟨A', c', B', d', t', gl', HB', ht', HM', HX9⟩ := hcut
            rename World => v9
            go_wp2_with fail
            go_roundg (N - (k + 1))
            case measure => omega
            case rel => exact ⟨k + 1, A', c', B', d', t', gl', rfl, by omega, by go_num, HB', by omega, HM', HX9⟩
      · have h4b : (qk == 4) = false := by simpa using h4
        have hsend : sendL 5 t0 wl gl = [⟨5, 0, [1, 5, (k : Int) + 1, qo, qa, qb, qc, qd]⟩] := by unfold sendL sendM; rw [if_pos ⟨HB.out, by rw [HM.out, HC.out.2]; omega⟩, HM.out, HPK.out, if_neg h4]
        have e1 := send_one A N c B k d t0 wl gl wr HX.out.x.P.sl HX.out.x.Q.sl HC.out.2 HM.out (by unfold maxLen; omega) (by unfold maxLen; omega) 5 0 [1, 5, (k : Int) + 1, qo, qa, qb, qc, qd] 8 hsend rfl (by decide)
        have HV := Lib.hid (show askB 5 ((k : Int) + 1) qo qa qb qc qd = true from send_ask HB.out HM.out (by rw [HC.out.2]; exact hlt) HPK.out h4)
        have HN := Lib.hid (numsAsk HV.out)
        clear hsend
        have lt_X := HX.out.x.k.lt
        have r_X0 : wr.cell? ⟨gx, 0, none⟩ = some (.int .i64 5) := HX.out.x.k.cell 0
        have z_X0 := HX.out.x.k.frozen 0
        have r_X1 : wr.cell? ⟨gx, 1, none⟩ = some (.slice A N c) := HX.out.x.k.cell 1
        have z_X1 := HX.out.x.k.frozen 1
        have r_X2 : wr.cell? ⟨gx, 2, none⟩ = some (.slice B k d) := HX.out.x.k.cell 2
        have z_X2 := HX.out.x.k.frozen 2
        have r_X3 : wr.cell? ⟨gx, 3, none⟩ = some (.int .i64 t0) := HX.out.x.k.cell 3
        have z_X3 := HX.out.x.k.frozen 3
        go_wp2_with fail
        refine e1.mono ?_
        rintro e v1 ⟨g, r, rc, cs, rfl, hg, hr, hrc, hrm, KM1, RM1, b1⟩
        clear e1
        clear lt_X r_X0 z_X0 r_X1 z_X1 r_X2 z_X2 r_X3 z_X3
        have HX1 := Lib.hid (HX.out.below b1)
        have KM := Lib.hid KM1
        have RM := Lib.hid RM1
        clear HX KM1 RM1 b1
        have lt_M := KM.out.lt
        have r_M0 : v1.cell? ⟨g, 0, none⟩ = some (.int .i64 5) := KM.out.cell 0
        have r_M1 : v1.cell? ⟨g, 1, none⟩ = some (.int .i64 0) := KM.out.cell 1
        have r_M2 : v1.cell? ⟨g, 2, none⟩ = some (.slice (some ⟨r, 0, none⟩) 8 rc) := KM.out.cell 2
        go_wp2_with fail
        refine (msgOk_yes 5 0 (some ⟨r, 0, none⟩) 8 rc [1, 5, (k : Int) + 1, qo, qa, qb, qc, qd] v1 (by decide) (by decide) (by decide) RM.out.sl (by decide) (by decide) HN.out).mono ?_
        rintro e v2 ⟨rfl, b2⟩
        clear lt_M r_M0 r_M1 r_M2
        have HX2 := Lib.hid (HX1.out.below b2)
        replace KM := Lib.hid (KM.out.below b2)
        replace RM := Lib.hid (RM.out.below b2)
        clear HX1 b2
        have e2 := allDone_any A N c B k d 5 t0 wl gl v2 HX2.out.x.P.sl HX2.out.x.Q.sl HC.out.2 HM.out (by unfold maxLen; omega) (by unfold maxLen; omega)
        rw [show doneB 5 wl gl t0 = false by unfold doneB; rw [decide_eq_false (by rw [HM.out, HC.out.2]; omega)]; simp] at e2
        have lt_X := HX2.out.x.k.lt
        have r_X0 : v2.cell? ⟨gx, 0, none⟩ = some (.int .i64 5) := HX2.out.x.k.cell 0
        have z_X0 := HX2.out.x.k.frozen 0
        have r_X1 : v2.cell? ⟨gx, 1, none⟩ = some (.slice A N c) := HX2.out.x.k.cell 1
        have z_X1 := HX2.out.x.k.frozen 1
        have r_X2 : v2.cell? ⟨gx, 2, none⟩ = some (.slice B k d) := HX2.out.x.k.cell 2
        have z_X2 := HX2.out.x.k.frozen 2
        have r_X3 : v2.cell? ⟨gx, 3, none⟩ = some (.int .i64 t0) := HX2.out.x.k.cell 3
        have z_X3 := HX2.out.x.k.frozen 3
        have lt_M := KM.out.lt
        have r_M0 : v2.cell? ⟨g, 0, none⟩ = some (.int .i64 5) := KM.out.cell 0
        have r_M1 : v2.cell? ⟨g, 1, none⟩ = some (.int .i64 0) := KM.out.cell 1
        have r_M2 : v2.cell? ⟨g, 2, none⟩ = some (.slice (some ⟨r, 0, none⟩) 8 rc) := KM.out.cell 2
        go_wp2_with fail
        refine e2.mono ?_
        rintro e v3 ⟨rfl, b3⟩
        clear e2
        clear lt_X r_X0 z_X0 r_X1 z_X1 r_X2 z_X2 r_X3 z_X3
        clear lt_M r_M0 r_M1 r_M2
        have HX3 := Lib.hid (HX2.out.below b3)
        replace KM := Lib.hid (KM.out.below b3)
        replace RM := Lib.hid (RM.out.below b3)
        clear HX2 b3
        have e3 := nextSeq_any A N c B k d 5 t0 wl gl v3 HX3.out.x.P.sl HX3.out.x.Q.sl HC.out.2 HM.out (by unfold maxLen; omega) (by unfold maxLen; omega)
        rw [show seqI 5 wl gl t0 = (k : Int) + 1 by unfold seqI pendS; rw [if_pos HB.out, if_neg (by rw [HM.out, HC.out.2]; omega), HM.out]] at e3
        have lt_X := HX3.out.x.k.lt
        have r_X0 : v3.cell? ⟨gx, 0, none⟩ = some (.int .i64 5) := HX3.out.x.k.cell 0
        have z_X0 := HX3.out.x.k.frozen 0
        have r_X1 : v3.cell? ⟨gx, 1, none⟩ = some (.slice A N c) := HX3.out.x.k.cell 1
        have z_X1 := HX3.out.x.k.frozen 1
        have r_X2 : v3.cell? ⟨gx, 2, none⟩ = some (.slice B k d) := HX3.out.x.k.cell 2
        have z_X2 := HX3.out.x.k.frozen 2
        have r_X3 : v3.cell? ⟨gx, 3, none⟩ = some (.int .i64 t0) := HX3.out.x.k.cell 3
        have z_X3 := HX3.out.x.k.frozen 3
        go_wp2_with fail
        refine e3.mono ?_
        rintro e v4 ⟨rfl, b4⟩
        clear e3
        clear lt_X r_X0 z_X0 r_X1 z_X1 r_X2 z_X2 r_X3 z_X3
        have HX4 := Lib.hid (HX3.out.below b4)
        replace KM := Lib.hid (KM.out.below b4)
        replace RM := Lib.hid (RM.out.below b4)
        clear HX3 b4
        obtain ⟨hbw, t0_, t1_, t2_, t3_, t4_, t5_, t6_⟩ := want_at HX4.out.t.sl hlt
        rw [HPK.out] at t0_ t1_ t2_ t3_ t4_ t5_ t6_
        simp only at t0_ t1_ t2_ t3_ t4_ t5_ t6_
        have lt_M := KM.out.lt
        have r_M0 : v4.cell? ⟨g, 0, none⟩ = some (.int .i64 5) := KM.out.cell 0
        have r_M1 : v4.cell? ⟨g, 1, none⟩ = some (.int .i64 0) := KM.out.cell 1
        have r_M2 : v4.cell? ⟨g, 2, none⟩ = some (.slice (some ⟨r, 0, none⟩) 8 rc) := KM.out.cell 2
        go_wp2_with fail
        clear hbw t0_ t1_ t2_ t3_ t4_ t5_ t6_
        clear lt_M r_M0 r_M1 r_M2
        refine (rowAsk_yes r 0 rc 5 ((k : Int) + 1) qo qa qb qc qd v4 RM.out.sl hrc hrm HV.out).mono ?_
        rintro e v5 ⟨rfl, b5⟩
        have HX5 := Lib.hid (HX4.out.below b5)
        replace KM := Lib.hid (KM.out.below b5)
        clear RM HX4 b5
        go_upto_region 18 with fail
        obtain ⟨v6, hv6⟩ : ∃ v : World, v = v5.alloc (.cells #[.int .i64 5, .int .i64 ((k : Int) + 1), .int .i64 qo, .int .i64 qa, .int .i64 qb, .int .i64 qc, .int .i64 qd] 54) := ⟨_, rfl⟩
        rw [← hv6]
        obtain ⟨gr, hgr⟩ : ∃ q, q = v5.heap.size := ⟨_, rfl⟩
        try rw [← hgr]
        have KR : Hid (Blk v6 gr 54 #[.int .i64 5, .int .i64 ((k : Int) + 1), .int .i64 qo, .int .i64 qa, .int .i64 qb, .int .i64 qc, .int .i64 qd]) := by rw [hv6, hgr]; exact Blk.new _ _ _
        have HX6 : Hid (SX w v6 p gx A N c B k d t0 (WT wl) (GT gl) (some ⟨bw, ow, none⟩) c2) := by rw [hv6]; exact HX5.out.alloc _
        have KM6 : Hid (Blk v6 g 38 #[.int .i64 5, .int .i64 0, .slice (some ⟨r, 0, none⟩) 8 rc]) := by rw [hv6]; exact KM.out.alloc _
        clear hv6 hgr HX5 KM
        have KM := KM6
        clear KM6
        have lt_X := HX6.out.x.k.lt
        have r_X0 : v6.cell? ⟨gx, 0, none⟩ = some (.int .i64 5) := HX6.out.x.k.cell 0
        have z_X0 := HX6.out.x.k.frozen 0
        have r_X1 : v6.cell? ⟨gx, 1, none⟩ = some (.slice A N c) := HX6.out.x.k.cell 1
        have z_X1 := HX6.out.x.k.frozen 1
        have r_X2 : v6.cell? ⟨gx, 2, none⟩ = some (.slice B k d) := HX6.out.x.k.cell 2
        have z_X2 := HX6.out.x.k.frozen 2
        have r_X3 : v6.cell? ⟨gx, 3, none⟩ = some (.int .i64 t0) := HX6.out.x.k.cell 3
        have z_X3 := HX6.out.x.k.frozen 3
        have lt_M := KM.out.lt
        have r_M0 : v6.cell? ⟨g, 0, none⟩ = some (.int .i64 5) := KM.out.cell 0
        have r_M1 : v6.cell? ⟨g, 1, none⟩ = some (.int .i64 0) := KM.out.cell 1
        have r_M2 : v6.cell? ⟨g, 2, none⟩ = some (.slice (some ⟨r, 0, none⟩) 8 rc) := KM.out.cell 2
        obtain ⟨hbw, t0_, t1_, t2_, t3_, t4_, t5_, t6_⟩ := want_at HX6.out.t.sl hlt
        rw [HPK.out] at t0_ t1_ t2_ t3_ t4_ t5_ t6_
        simp only at t0_ t1_ t2_ t3_ t4_ t5_ t6_
        have lt_R := KR.out.lt
        have r_R0 : v6.cell? ⟨gr, 0, none⟩ = some (.int .i64 5) := KR.out.cell 0
        have r_R1 : v6.cell? ⟨gr, 1, none⟩ = some (.int .i64 ((k : Int) + 1)) := KR.out.cell 1
        have r_R2 : v6.cell? ⟨gr, 2, none⟩ = some (.int .i64 qo) := KR.out.cell 2
        have r_R3 : v6.cell? ⟨gr, 3, none⟩ = some (.int .i64 qa) := KR.out.cell 3
        have r_R4 : v6.cell? ⟨gr, 4, none⟩ = some (.int .i64 qb) := KR.out.cell 4
        have r_R5 : v6.cell? ⟨gr, 5, none⟩ = some (.int .i64 qc) := KR.out.cell 5
        have r_R6 : v6.cell? ⟨gr, 6, none⟩ = some (.int .i64 qd) := KR.out.cell 6
        have hopn := op_neq qo qa qb qc qd
        go_cut [153] (fun cv wx => cv = .bool false ∧ Hid (SX w wx p gx A N c B k d t0 (WT wl) (GT gl) (some ⟨bw, ow, none⟩) c2))
        case first =>
          go_quiet (fail)
          go_wp2_with fail
          go_meet
          first
            | exact ⟨rfl, Lib.hid (HX6.out.drewN _)⟩
            | exact ⟨rfl, Lib.hid HX6.out.drew⟩
            | exact ⟨rfl, HX6⟩
        case rest =>
          obtain ⟨rfl, HX7⟩ := hcut
          rename World => v7
          clear lt_X r_X0 z_X0 r_X1 z_X1 r_X2 z_X2 r_X3 z_X3
          clear lt_M r_M0 r_M1 r_M2
          clear hbw t0_ t1_ t2_ t3_ t4_ t5_ t6_
          clear lt_R r_R0 r_R1 r_R2 r_R3 r_R4 r_R5 r_R6 HX6 KM KR hopn
          go_upto_region 20 with fail
          have lt_X := HX7.out.x.k.lt
          have r_X0 : v7.cell? ⟨gx, 0, none⟩ = some (.int .i64 5) := HX7.out.x.k.cell 0
          have z_X0 := HX7.out.x.k.frozen 0
          have r_X1 : v7.cell? ⟨gx, 1, none⟩ = some (.slice A N c) := HX7.out.x.k.cell 1
          have z_X1 := HX7.out.x.k.frozen 1
          have r_X2 : v7.cell? ⟨gx, 2, none⟩ = some (.slice B k d) := HX7.out.x.k.cell 2
          have z_X2 := HX7.out.x.k.frozen 2
          have r_X3 : v7.cell? ⟨gx, 3, none⟩ = some (.int .i64 t0) := HX7.out.x.k.cell 3
          have z_X3 := HX7.out.x.k.frozen 3
          have hw1 : IntKind.i64.wrap (t0 + 1) = t0 + 1 := by rw [IntKind.wrap_i64]; omega
          go_region_with (first | (go_at_call 7; refine (below_dc p 3 _ ?_ ?_).mono ?_; (first | with_reducible exact HX7.out.drew.d | with_reducible exact HX7.out.d); decide; rintro e v8 ⟨y, rfl, ⟨y0, y1⟩, D, W⟩; have HX8 := Lib.hid (SX.dice_drew HX7.out (show Wrote v7.drew v8 _ from W) D); have kx0 : v8.cell? ⟨gx, 0, none⟩ = some (.int .i64 5) := HX8.out.x.k.cell 0; have kxz0 := HX8.out.x.k.frozen 0; have kx1 : v8.cell? ⟨gx, 1, none⟩ = some (.slice A N c) := HX8.out.x.k.cell 1; have kxz1 := HX8.out.x.k.frozen 1; have kx2 : v8.cell? ⟨gx, 2, none⟩ = some (.slice B k d) := HX8.out.x.k.cell 2; have kxz2 := HX8.out.x.k.frozen 2; have kx3 : v8.cell? ⟨gx, 3, none⟩ = some (.int .i64 t0) := HX8.out.x.k.cell 3; have kxz3 := HX8.out.x.k.frozen 3; have kxl := HX8.out.x.k.lt; have hwy : IntKind.i64.wrap (t0 + 1 + y) = (t0 + 1 + y) := by rw [IntKind.wrap_i64]; omega) | (go_at_call 16; refine (heardAck_on A N c B k d t0 (t0 + 1 + y) wl gl v8 HX8.out.x.P.sl HX8.out.x.Q.sl HC.out.2 HM.out HB.out hlt (by rw [HPK.out]; exact h4) (by omega) (by omega) (by omega)).mono ?_; rintro e v9 ⟨A', c', B', d', gl', rfl, hg', hb', P9, Q9, b9⟩; have HX9 := Lib.hid (HX8.out.below b9); have ky0 : v9.cell? ⟨gx, 0, none⟩ = some (.int .i64 5) := HX9.out.x.k.cell 0; have kyz0 := HX9.out.x.k.frozen 0; have ky1 : v9.cell? ⟨gx, 1, none⟩ = some (.slice A N c) := HX9.out.x.k.cell 1; have kyz1 := HX9.out.x.k.frozen 1; have ky2 : v9.cell? ⟨gx, 2, none⟩ = some (.slice B k d) := HX9.out.x.k.cell 2; have kyz2 := HX9.out.x.k.frozen 2; have ky3 : v9.cell? ⟨gx, 3, none⟩ = some (.int .i64 t0) := HX9.out.x.k.cell 3; have kyz3 := HX9.out.x.k.frozen 3; have kyl := HX9.out.x.k.lt))
          all_goals
            go_wp2_with fail
            go_roundg (N - (k + 1))
            case measure => omega
            case rel => exact ⟨k + 1, A', c', B', d', (t0 + 1 + y), gl', rfl, by omega, by go_num, Lib.hid hb', ⟨by omega, by omega⟩, Lib.hid hg', Lib.hid (SX.on HX9.out HX8.out.d.lt HX8.out.x.k.lt P9 Q9)⟩
    · have hkn : k = N := by omega
      subst hkn
      have hN5 : k ≤ 5 := by omega
      have hkm : k ≤ maxLen := by unfold maxLen; omega
      have e1 := allDone_any A k c B k d 5 t0 wl gl wr HX.out.x.P.sl HX.out.x.Q.sl HC.out.2 HM.out hkm hkm
      rw [show doneB 5 wl gl t0 = true by unfold doneB; rw [HB.out, decide_eq_true (by rw [HM.out, HC.out.2])]; rfl] at e1
      have lt_X := HX.out.x.k.lt
      have r_X0 : wr.cell? ⟨gx, 0, none⟩ = some (.int .i64 5) := HX.out.x.k.cell 0
      have z_X0 := HX.out.x.k.frozen 0
      have r_X1 : wr.cell? ⟨gx, 1, none⟩ = some (.slice A k c) := HX.out.x.k.cell 1
      have z_X1 := HX.out.x.k.frozen 1
      have r_X2 : wr.cell? ⟨gx, 2, none⟩ = some (.slice B k d) := HX.out.x.k.cell 2
      have z_X2 := HX.out.x.k.frozen 2
      have r_X3 : wr.cell? ⟨gx, 3, none⟩ = some (.int .i64 t0) := HX.out.x.k.cell 3
      have z_X3 := HX.out.x.k.frozen 3
      go_wp2_with fail
      refine e1.mono ?_
      rintro e v1 ⟨rfl, b1⟩
      clear e1
      clear lt_X r_X0 z_X0 r_X1 z_X1 r_X2 z_X2 r_X3 z_X3
      have HX1 := Lib.hid (HX.out.below b1)
      clear HX b1
      have e2 := send_none A k c B k d t0 wl gl v1 HX1.out.x.P.sl HX1.out.x.Q.sl HC.out.2 HM.out hkm hkm (by unfold sendL; rw [if_neg (by rw [HM.out, HC.out.2]; exact fun h => h.2 rfl)])
      have lt_X := HX1.out.x.k.lt
      have r_X0 : v1.cell? ⟨gx, 0, none⟩ = some (.int .i64 5) := HX1.out.x.k.cell 0
      have z_X0 := HX1.out.x.k.frozen 0
      have r_X1 : v1.cell? ⟨gx, 1, none⟩ = some (.slice A k c) := HX1.out.x.k.cell 1
      have z_X1 := HX1.out.x.k.frozen 1
      have r_X2 : v1.cell? ⟨gx, 2, none⟩ = some (.slice B k d) := HX1.out.x.k.cell 2
      have z_X2 := HX1.out.x.k.frozen 2
      have r_X3 : v1.cell? ⟨gx, 3, none⟩ = some (.int .i64 t0) := HX1.out.x.k.cell 3
      have z_X3 := HX1.out.x.k.frozen 3
      go_wp2_with fail
      refine e2.mono ?_
      rintro e v2 ⟨⟨A9, c9, rfl⟩, b2⟩
      clear e2
      clear lt_X r_X0 z_X0 r_X1 z_X1 r_X2 z_X2 r_X3 z_X3
      have HX2 := Lib.hid (HX1.out.below b2)
      clear HX1 b2
      have e3 := nextSeq_any A k c B k d 5 t0 wl gl v2 HX2.out.x.P.sl HX2.out.x.Q.sl HC.out.2 HM.out hkm hkm
      rw [show seqI 5 wl gl t0 = 0 by unfold seqI pendS; rw [if_pos HB.out, if_pos (by rw [HM.out, HC.out.2])]] at e3
      have lt_X := HX2.out.x.k.lt
      have r_X0 : v2.cell? ⟨gx, 0, none⟩ = some (.int .i64 5) := HX2.out.x.k.cell 0
      have z_X0 := HX2.out.x.k.frozen 0
      have r_X1 : v2.cell? ⟨gx, 1, none⟩ = some (.slice A k c) := HX2.out.x.k.cell 1
      have z_X1 := HX2.out.x.k.frozen 1
      have r_X2 : v2.cell? ⟨gx, 2, none⟩ = some (.slice B k d) := HX2.out.x.k.cell 2
      have z_X2 := HX2.out.x.k.frozen 2
      have r_X3 : v2.cell? ⟨gx, 3, none⟩ = some (.int .i64 t0) := HX2.out.x.k.cell 3
      have z_X3 := HX2.out.x.k.frozen 3
      go_wp2_with fail
      refine e3.mono ?_
      rintro e v3 ⟨rfl, b3⟩
      clear e3
      clear lt_X r_X0 z_X0 r_X1 z_X1 r_X2 z_X2 r_X3 z_X3
      have HX3 := Lib.hid (HX2.out.below b3)
      clear HX2 b3
      have lt_X := HX3.out.x.k.lt
      have r_X0 : v3.cell? ⟨gx, 0, none⟩ = some (.int .i64 5) := HX3.out.x.k.cell 0
      have z_X0 := HX3.out.x.k.frozen 0
      have r_X1 : v3.cell? ⟨gx, 1, none⟩ = some (.slice A k c) := HX3.out.x.k.cell 1
      have z_X1 := HX3.out.x.k.frozen 1
      have r_X2 : v3.cell? ⟨gx, 2, none⟩ = some (.slice B k d) := HX3.out.x.k.cell 2
      have z_X2 := HX3.out.x.k.frozen 2
      have r_X3 : v3.cell? ⟨gx, 3, none⟩ = some (.int .i64 t0) := HX3.out.x.k.cell 3
      have z_X3 := HX3.out.x.k.frozen 3
      go_wp2
      go_ret
      exact ⟨rfl, by rw [← HP.out]; exact HX3.out.f⟩
end Go.Proofs.Ytckbnfgdjdppfaa
