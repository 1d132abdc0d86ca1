/- The walk of the law FnClientLog. -/
import Derived.Test.YtbheflinchabgaaGreatDoorBd6
import Derived.Deep.LoopGhost
import Derived.Deep.CutRange
import Derived.BigQuiet
namespace Go.Proofs.YtbheflinchabgaaGreatDoor
set_option linter.unusedSimpArgs false
set_option linter.unusedVariables false
attribute [local go_sem] n_lt2 n_lt3 n_lt4 n_le2 n_le3
open Go.RowKit
attribute [local go_sem] Ext.cell Ext.frozen
set_option maxRecDepth 100000 in
set_option maxHeartbeats 16000000 in
theorem law_ClientLog (A : Option Addr) (n cap : Nat) (bs : List Int) (w : World) (hS : SlB w A n bs) (hnc : n ≤ cap) (hcm : cap ≤ maxLen) :
    Calls Tryz.prog 3 #[.slice A n cap] w fun e' w' => e' = .returned (.bool true) ∧ Below w.heap.size w w' := by
  have hm0 : n ≤ maxLen := Nat.le_trans hnc hcm
  by_cases hbig : 4096 < n
  · have hd : decide (4096 < n) = true := decide_eq_true hbig
    have cb := big_any A n cap w hm0
    rw [hd] at cb
    clear hd hbig
    go_enter Tryz.func3, Tryz.ntmps3
    go_wp2_with fail
    refine cb.mono ?_
    rintro e w' ⟨rfl, rfl⟩
    go_wp2_with fail
    go_ret
    exact ⟨rfl, Below.refl _ _⟩
  have hd : decide (4096 < n) = false := decide_eq_false hbig
  have cb := big_any A n cap w hm0
  rw [hd] at cb
  have HSB := Lib.hid hS
  have hn4 : n ≤ 4096 := by omega
  clear hd hS hbig
  go_enter Tryz.func3, Tryz.ntmps3
  go_wp2_with fail
  refine cb.mono ?_
  rintro e w' ⟨rfl, rfl⟩
  clear cb
  go_wp2_with fail
  refine (roll_dc A n cap bs 933 w HSB.out hn4 (by omega)).mono ?_
  rintro e w1 ⟨rfl, D1, b1⟩
  clear HSB
  obtain ⟨p, hp⟩ : ∃ p, p = w.heap.size := ⟨_, rfl⟩
  rw [← hp] at D1 ⊢
  have F1 : Below p w w1 := by rw [hp]; exact b1
  have HP := Lib.hid hp
  clear b1 hp
  have R0 : Row (w1.alloc (.cells #[] 32)) (p + 1) 32 7 (some ⟨w1.heap.size, 0, none⟩) 0 0 [] := row0e (Blk.new w1 _ _) D1.lt
  have D1b := D1.alloc (.cells #[] 32)
  have F1b := F1.alloc (Nat.le_of_lt D1.lt) (.cells #[] 32)
  go_wp2_with fail
  refine (below_dc p 4 _ D1b (by omega)).mono ?_
  rintro e w2 ⟨x, rfl, ⟨x0, x1⟩, D2, W2⟩
  have R2 := rowd R0 W2 (Nat.lt_succ_self p)
  have F2 : Below p w w2 := W2.below F1b (Nat.le_of_lt D1b.lt) (fun a ha => by obtain rfl := Option.some.inj ha; exact Nat.le_refl _)
  clear D1 W2 F1 R0 D1b F1b
  obtain ⟨N0, rfl⟩ : ∃ N : Nat, x = (N : Int) := ⟨x.toNat, by omega⟩
  have hN0 : N0 < 4 := by omega
  obtain ⟨N, hN⟩ : ∃ N, N = N0 + 1 := ⟨_, rfl⟩
  have hwr : IntKind.i64.wrap (1 + (N0 : Int)) = (N : Int) := by rw [IntKind.wrap_i64]; omega
  go_wp2_with fail
  go_loopw [5, 4] (fun kv lv wr => ∃ (j : Nat) (A : Option Addr) (n c : Nat) (wl : List Wt), n + j = N ∧ wl.length = n ∧ putsB wl ∧ kv = .int .i64 (j : Nat) ∧ lv = .slice A n c ∧ Hid (Row wr (p + 1) 32 7 A n c (WT wl)) ∧ Hid (DC wr p 80) ∧ Hid (Below p w wr)) (fun kv _ _ => (intOf kv).toNat)
  case atStart => exact ⟨N, _, 0, 0, [], by omega, rfl, (fun i hi => by cases hi), by first | rfl | (rw [hwr]) | (simp [hwr]; done) | (congr 1; omega), rfl, Lib.hid R2, Lib.hid D2, Lib.hid F2⟩
  case round =>
    clear R2 D2 F2
    obtain ⟨j, A, n, c, wl, hj, hl, hw0, rfl, rfl, R, L, F⟩ := hrel
    have hlp := L.out.lt
    by_cases hlt : 0 < j
    · have hj0 : (0 : Int) < (j : Int) := by omega
      have hj12 : (j : Int) ≤ 4 := by omega
      go_wp2_with fail
      refine (below_dc p 10 wr L.out (by omega)).mono ?_
      rintro e w1 ⟨a, rfl, ⟨a0, a1⟩, L1, W1⟩
      have R1 := Lib.hid (rowd R.out W1 (Nat.lt_succ_self p))
      have F1 : Below p w w1 := W1.below F.out (Nat.le_of_lt hlp) (fun a ha => by obtain rfl := Option.some.inj ha; exact Nat.le_refl _)
      clear R L F W1
      go_wp2_with fail
      refine (below_dc p 90 w1 L1 (by omega)).mono ?_
      rintro e w2 ⟨b, rfl, ⟨b0, b1⟩, L2, W2⟩
      have R2 := Lib.hid (rowd R1.out W2 (Nat.lt_succ_self p))
      have F2 : Below p w w2 := W2.below F1 (Nat.le_of_lt L1.lt) (fun a ha => by obtain rfl := Option.some.inj ha; exact Nat.le_refl _)
      clear R1 L1 F1 W2
      have hp2 := L2.lt
      have HH := Lib.hid (And.intro (L2.alloc (.cells #[.int .i64 1, .int .i64 1, .int .i64 a, .int .i64 b, .int .i64 0, .int .i64 0, .int .i64 0] 32)) (F2.alloc (Nat.le_of_lt hp2) (.cells #[.int .i64 1, .int .i64 1, .int .i64 a, .int .i64 b, .int .i64 0, .int .i64 0, .int .i64 0] 32)))
      clear L2 F2
      go_wp2_with (at_builtin; refine wpList_append_row rfl _ _ 27 rfl 32 (.agg #[.int .i64 0, .int .i64 0, .int .i64 0, .int .i64 0, .int .i64 0, .int .i64 0, .int .i64 0]) 7 56 Tryz.underlying27 info_Want9 (by first | kernel_rfl | simp [Value.cells]) (by decide) (p + 1) A n c (WT wl) rfl (World.ownsRow.alloc R2.out _) ⟨w2.heap.size, 0, none⟩ 1 1 [1, 1, a, b, 0, 0, 0] rfl rfl (cell_seven_at _ _ _ _ _ _ _ _ _ _ rfl) (by unfold maxLen; omega) (by omega) (by simp; omega) ?_; intro A5 c5 w5 R5 B5)
      exact ⟨⟨j - 1, A5, n + 1, c5, wl ++ [⟨1, 1, a, b, 0, 0, 0⟩], by omega, by simp [hl], hw0.snoc a b ⟨a0, by omega⟩ ⟨b0, by omega⟩, by go_num, rfl, Lib.hid (by rw [← WT_snoc7]; exact R5), Lib.hid (HH.out.1.below B5 (Nat.lt_succ_self p)), Lib.hid (HH.out.2.trans (B5.mono (Nat.le_succ p)))⟩, by simp [intOf]; omega⟩
    · have hj0 : ¬ (0 : Int) < (j : Int) := by omega
      have hj00 : j = 0 := by omega
      subst hj00
      have hnN : n = N := by omega
      subst hnN
      clear hlt hj
      have hN4 : n ≤ 4 := by omega
      have hN1 : 1 ≤ n := by omega
      clear hN hwr hN0 x0 x1
      have HWL := Lib.hid (And.intro hl hw0)
      have cnew : clientB 4 wl [] 0 = true := client_new hw0.wants (by omega)
      have e1 := newClient_any A n c 4 wl wr R.out.sl hl (by omega)
      rw [show newI 4 wl = 4 by unfold newI newB; rw [if_pos cnew], show newL 4 wl = wl by unfold newL newB; rw [if_pos cnew], hl] at e1
      clear cnew hl hw0
      go_wp2_with fail
      refine e1.mono ?_
      rintro e w4 ⟨A4, c4, B4, d4, rfl, P4, Q4, _, b4⟩
      clear e1
      have hT4 := ((Row.on R.out).map (fun v hv => Row.sl hv)).below b4
      have hP4 := (Row.on P4).map (fun v hv => Row.sl hv)
      have hQ4 := (Row.on Q4).map (fun v hv => Row.sl hv)
      have D4 := L.out.below b4 hlp
      have F4 : Below p w w4 := F.out.trans (b4.mono (Nat.le_of_lt hlp))
      have z4 := b4.size
      clear b4 P4 Q4 R L F
      go_upto_region 10 with fail
      obtain ⟨w5, hw5⟩ : ∃ x : World, x = w4.alloc (.cells #[.int .i64 4, .slice A4 n c4, .slice B4 0 d4, .int .i64 0] 35) := ⟨_, rfl⟩
      rw [← hw5]
      have K5 : Blk w5 w4.heap.size 35 #[.int .i64 4, .slice A4 n c4, .slice B4 0 d4, .int .i64 0] := by rw [hw5]; exact Blk.new _ _ _
      have hX5 : On (Rg (p + 1) w4.heap.size) (fun x => Sl x 7 A n (WT wl) ∧ (Sl x 7 A4 n (WT wl) ∧ Sl x 4 B4 0 (GT (gotsL 0)))) w5 := by
        rw [hw5]
        exact ((hT4.sub (Rg.sub (Nat.le_refl _) z4)).and ((hP4.sub (Rg.sub (by omega) (Nat.le_refl _))).and (hQ4.sub (Rg.sub (by omega) (Nat.le_refl _))))).alloc _
      have D5 : DC w5 p 80 := by rw [hw5]; exact D4.alloc _
      have F5 : Below p w w5 := by rw [hw5]; exact F4.alloc (by omega) _
      have z5 : w4.heap.size + 1 ≤ w5.heap.size := by rw [hw5]; simp
      clear hw5 hT4 hP4 hQ4 D4 F4
      obtain ⟨g6, hg6⟩ : ∃ q, q = w4.heap.size := ⟨_, rfl⟩
      rw [← hg6] at K5 hX5 z5
      try rw [← hg6]
      have l6 : p < g6 := by omega
      clear hg6
      go_wp2_with fail
      refine (newLog_ok w5).mono ?_
      rintro e w6 ⟨KA, cA, WA, dA, KB, cB, WB, dB, H, hc, X, xc, L, lc, S, sc, O, oc, m0, n0, ns0, no0, rfl, hO, b6⟩
      have hm := hO.out.hm
      have hn := hO.out.hn
      have hns := hO.out.hs
      have hno := hO.out.ho
      simp only [List.length_nil] at hn
      rw [show waitN ([] : List En) 0 = 0 from rfl] at hm
      rw [show markN ([] : List En) = 0 from rfl] at hns
      rw [show oweN ([] : List En) 0 = 0 from rfl] at hno
      subst hm hn hns hno
      go_upto_region 11 with (show wpList _ _ _ (Oper.mk _ (Op.store 51 _ _) _ _ _ _ :: _) _ _; refine wpList_store_new rfl 51 _ _ rfl _ #[.slice KA 22 cA, .slice WA 0 dA, .slice KB 22 cB, .slice WB 0 dB, .int .i64 0, .int .i64 0, .int .i64 0, .slice H 0 hc, .int .i64 0, .int .i64 0, .int .i64 0, .slice X 0 xc, .bool false, .int .i64 0, .int .i64 0, .slice L 0 lc, .slice S 0 sc, .int .i64 (0 : Nat), .slice O 0 oc] #[.slice none 0 0, .slice none 0 0, .slice none 0 0, .slice none 0 0, .int .i64 0, .int .i64 0, .int .i64 0, .slice none 0 0, .int .i64 0, .int .i64 0, .int .i64 0, .slice none 0 0, .bool false, .int .i64 0, .int .i64 0, .slice none 0 0, .slice none 0 0, .int .i64 0, .slice none 0 0] rfl rfl rfl (by as_aux_lemma => kernel_rfl) rfl (by simp [Value.oneCell']) rfl ?_)
      obtain ⟨w7, hw7⟩ : ∃ x : World, x = w6.alloc (.cells #[.slice KA 22 cA, .slice WA 0 dA, .slice KB 22 cB, .slice WB 0 dB, .int .i64 0, .int .i64 0, .int .i64 0, .slice H 0 hc, .int .i64 0, .int .i64 0, .int .i64 0, .slice X 0 xc, .bool false, .int .i64 0, .int .i64 0, .slice L 0 lc, .slice S 0 sc, .int .i64 (0 : Nat), .slice O 0 oc] 51) := ⟨_, rfl⟩
      rw [← hw7]
      obtain ⟨g7, hg7⟩ : ∃ q, q = w6.heap.size := ⟨_, rfl⟩
      rw [← hg7]
      have z6 := b6.size
      have l7 : g6 < g7 := by omega
      have HX : Hid (LSx w w7 p g6 g7 A n wl 0 0 0 0 0 0 [] []) := by
        refine Lib.hid ⟨A4, c4, B4, d4, KA, cA, WA, dA, KB, cB, WB, dB, H, hc, X, xc, L, lc, S, sc, O, oc, ?_⟩
        rw [hw7]
        refine ⟨(K5.below b6).alloc _, by rw [hg7]; exact Blk.new _ _ _, ?_, (D5.below b6 (by omega)).alloc _, ?_, ?_⟩
        · have q1 := ((hX5.below b6).alloc (.cells #[.slice KA 22 cA, .slice WA 0 dA, .slice KB 22 cB, .slice WB 0 dB, .int .i64 0, .int .i64 0, .int .i64 0, .slice H 0 hc, .int .i64 0, .int .i64 0, .int .i64 0, .slice X 0 xc, .bool false, .int .i64 0, .int .i64 0, .slice L 0 lc, .slice S 0 sc, .int .i64 (0 : Nat), .slice O 0 oc] 51)).sub (T := Sx p g6 g7) (fun k hk => by have := hk.1; have := hk.2; exact ⟨by omega, by omega, by omega⟩)
          have q2 := (hO.alloc (.cells #[.slice KA 22 cA, .slice WA 0 dA, .slice KB 22 cB, .slice WB 0 dB, .int .i64 0, .int .i64 0, .int .i64 0, .slice H 0 hc, .int .i64 0, .int .i64 0, .int .i64 0, .slice X 0 xc, .bool false, .int .i64 0, .int .i64 0, .slice L 0 lc, .slice S 0 sc, .int .i64 (0 : Nat), .slice O 0 oc] 51)).sub (T := Sx p g6 g7) (fun k hk => by have := hk.1; have := hk.2; exact ⟨by omega, by omega, by omega⟩)
          exact (q1.and q2).map (fun x h => ⟨h.1.1, h.1.2, h.2⟩)
        · have := HP.out
          rw [← this]
          exact (F5.trans (b6.mono (by omega))).alloc (by omega) _
        · rw [HP.out, World.size_alloc]
          rw [HP.out] at l6
          omega
      clear K5 hX5 D5 F5 b6 hO hw7 hg7 z6 z5 z4
      go_wp2_with fail
      go_loopg [8] 14 (fun gk iv wr2 => RL2 gk iv wr2 w p g6 g7 A n wl)
      case atStart => unfold RL2; exact ⟨0, 0, 0, 0, [], [], rfl, rfl, by omega, ⟨by omega, by omega, by omega⟩, fun h => by omega, Lib.hid (esW.nil wl), HX⟩
      case round =>
        clear HX
        unfold RL2 at hrel
        obtain ⟨r, m, k, ns, es, z, rfl, rfl, hr, ⟨hm1, hm2, hm3⟩, hcl, HE, HX⟩ := hrel
        by_cases hlt : r < 14
        · have hlt' : (r : Int) < 14 := by omega
          obtain ⟨Ac, cc, Bc, dc, KA, cA, WA, dA, KB, cB, WB, dB, H, hc, X, xc, L, lc, S, sc, O, oc, HXX⟩ := HX.out
          have HX := Lib.hid HXX
          clear HXX
          obtain ⟨cb, hcb⟩ : ∃ b : Bool, b = decide (8 ≤ (r : Int)) := ⟨_, rfl⟩
          go_upto_region 15 with fail
          rw [← hcb]
          have HCB := Lib.hid hcb
          clear hcb
          obtain ⟨hwl, hwp⟩ := HWL.out
          go_upto_region 16 with fail
          obtain ⟨v0, hv0⟩ : ∃ x : World, x = wr.alloc (.cells #[] 71) := ⟨_, rfl⟩
          rw [← hv0]
          obtain ⟨gE, hgE⟩ : ∃ q, q = wr.heap.size := ⟨_, rfl⟩
          try rw [← hgE]
          have HX0 := HX.out.alloc (.cells #[] 71)
          rw [← hv0] at HX0
          have HX0 := Lib.hid HX0
          clear HX hv0 hgE
          go_cut [11] from 44 to 145 (fun lv wx => ∃ (As : Option Addr) (q cs : Nat) (gm rm rc : Nat) (a b : Int), lv = .slice As q cs ∧ ((q = 0 ∧ m = n) ∨ (q = 1 ∧ m < n ∧ As = some ⟨gm, 0, none⟩ ∧ 8 ≤ rc ∧ rc ≤ maxLen)) ∧ (m < n → wl.getD m default = ⟨1, 1, a, b, 0, 0, 0⟩ ∧ (0 ≤ a ∧ a ≤ 9) ∧ (0 ≤ b ∧ b ≤ 999)) ∧ LX w wx p g6 g7 #[.int .i64 4, .slice Ac n cc, .slice Bc m dc, .int .i64 (m : Nat)] #[.slice KA 22 cA, .slice WA 0 dA, .slice KB 22 cB, .slice WB 0 dB, .int .i64 0, .int .i64 0, .int .i64 0, .slice H 0 hc, .int .i64 0, .int .i64 0, .int .i64 0, .slice X 0 xc, .bool false, .int .i64 0, .int .i64 0, .slice L k lc, .slice S ns sc, .int .i64 (k : Nat), .slice O 0 oc] (fun x => (Sl x 7 A n (WT wl) ∧ (Sl x 7 Ac n (WT wl) ∧ Sl x 4 Bc m (GT (gotsL m))) ∧ LgW x KA WA KB WB L S O lc 0 k ns 0 es k z) ∧ (q = 1 → Blk x gm 61 #[.int .i64 4, .int .i64 0, .slice (some ⟨rm, 0, none⟩) 8 rc] ∧ Sl x 1 (some ⟨rm, 0, none⟩) 8 [1, 4, (m : Int) + 1, 1, a, b, 0, 0])))
          case first =>
            have r0 := HX0.out.k6.cell 0
            have r1 := HX0.out.k6.cell 1
            have r2 := HX0.out.k6.cell 2
            have r3 := HX0.out.k6.cell 3
            have lt6 := HX0.out.k6.lt
            by_cases hmn : m < n
            · obtain ⟨a, b, hab, ha, hb⟩ := hwp m (by omega)
              have hcl4 := gots_client hwp (by omega) m (by omega)
              have hsend : sendL 4 (m : Int) wl (gotsL m) = [⟨4, 0, [1, 4, (m : Int) + 1, 1, a, b, 0, 0]⟩] := by unfold sendL sendM; rw [if_pos ⟨hcl4, by rw [gotsL_len]; omega⟩, gotsL_len, hab, if_neg (by simp)]
              have e1 := send_one Ac n cc Bc m dc (m : Int) wl (gotsL m) v0 HX0.out.ok.2.1.1 HX0.out.ok.2.1.2 hwl (gotsL_len m) (by unfold maxLen; omega) (by unfold maxLen; omega) 4 0 [1, 4, (m : Int) + 1, 1, a, b, 0, 0] 8 hsend rfl (by decide)
              go_wp2_with fail
              refine e1.mono ?_
              rintro e v1 ⟨gm, rm, rc, cs, rfl, hgm, hrm, hrc, hrm2, KM1, RM1, b1⟩
              clear e1 r0 r1 r2 r3 lt6 hsend
              go_wp2_with fail
              go_meet
              refine ⟨_, 1, cs, gm, rm, rc, a, b, rfl, .inr ⟨rfl, hmn, rfl, hrc, hrm2⟩, fun _ => ⟨hab, ha, hb⟩, ?_⟩
              have hq := (((Blk.on KM1).sub (T := Rg v0.heap.size v1.heap.size) (fun k hk => by rw [hk]; exact ⟨hgm, KM1.lt⟩)).and ((Row.on RM1).map (fun v hv => Row.sl hv)))
              exact (HX0.out.add b1 (Nat.le_refl _) hq).map (fun x h => ⟨h.1, fun _ => h.2⟩)
            · have hmn2 : m = n := by omega
              have hsend : sendL 4 (m : Int) wl (gotsL m) = [] := by unfold sendL; rw [if_neg (by rw [gotsL_len]; omega)]
              have e1 := send_none Ac n cc Bc m dc (m : Int) wl (gotsL m) v0 HX0.out.ok.2.1.1 HX0.out.ok.2.1.2 hwl (gotsL_len m) (by unfold maxLen; omega) (by unfold maxLen; omega) hsend
              have HMN := Lib.hid (And.intro hmn hmn2)
              clear hsend hmn hmn2
              go_wp2_with fail
              refine e1.mono ?_
              rintro e v1 ⟨⟨As, cs, rfl⟩, b1⟩
              clear e1 r0 r1 r2 r3 lt6
              go_wp2_with fail
              go_meet
              exact ⟨As, 0, cs, 0, 0, 0, 0, 0, rfl, .inl ⟨rfl, HMN.out.2⟩, fun h => absurd h HMN.out.1, (HX0.out.below b1).map (fun x h => ⟨h, fun h0 => by cases h0⟩)⟩
          case rest =>
            obtain ⟨As, q, cs, gm, rm, rc, ea, eb, rfl, hq, hab, HX1⟩ := hcut
            rename World => v1
            have HX1 := Lib.hid HX1
            have HAB := Lib.hid hab
            clear HX0 hab
            apply_assumption
            refine wp_seq_k (fun _ _ => ?_)
            go_cut [10, 12, 13, 14] from 44 to 145 (fun av _ _ _ wx => RL3 av wx w (cb = true ∧ m < n) p g6 g7 A n wl m)
            case first =>
              go_wp2_with fail
              go_loopg [10, 12] 1 (fun gk av iv wr4 => (gk = 1 ∧ iv = .int .i64 0 ∧ av = .slice (some ⟨gE, 0, none⟩) 0 0 ∧ Hid (LX w wr4 p g6 g7 #[.int .i64 4, .slice Ac n cc, .slice Bc m dc, .int .i64 (m : Nat)] #[.slice KA 22 cA, .slice WA 0 dA, .slice KB 22 cB, .slice WB 0 dB, .int .i64 0, .int .i64 0, .int .i64 0, .slice H 0 hc, .int .i64 0, .int .i64 0, .int .i64 0, .slice X 0 xc, .bool false, .int .i64 0, .int .i64 0, .slice L k lc, .slice S ns sc, .int .i64 (k : Nat), .slice O 0 oc] (fun x => (Sl x 7 A n (WT wl) ∧ (Sl x 7 Ac n (WT wl) ∧ Sl x 4 Bc m (GT (gotsL m))) ∧ LgW x KA WA KB WB L S O lc 0 k ns 0 es k z) ∧ (q = 1 → Blk x gm 61 #[.int .i64 4, .int .i64 0, .slice (some ⟨rm, 0, none⟩) 8 rc] ∧ Sl x 1 (some ⟨rm, 0, none⟩) 8 [1, 4, (m : Int) + 1, 1, ea, eb, 0, 0])))) ∨ (gk = 0 ∧ iv = .int .i64 1 ∧ RL3 av wr4 w True p g6 g7 A n wl m))
              case atStart => exact .inl ⟨rfl, rfl, rfl, HX1⟩
              case round =>
                clear HX1
                rcases hrel with ⟨rfl, rfl, rfl, HX⟩ | ⟨rfl, rfl, H3⟩
                · go_upto_region 18 with fail
                  go_cut [64] from 53 to 94 (fun bv wx => ∃ b : Bool, bv = .bool b ∧ (b = true → q = 1) ∧ (b = false → q = 0 ∨ cb = false) ∧ LX w wx p g6 g7 #[.int .i64 4, .slice Ac n cc, .slice Bc m dc, .int .i64 (m : Nat)] #[.slice KA 22 cA, .slice WA 0 dA, .slice KB 22 cB, .slice WB 0 dB, .int .i64 0, .int .i64 0, .int .i64 0, .slice H 0 hc, .int .i64 0, .int .i64 0, .int .i64 0, .slice X 0 xc, .bool false, .int .i64 0, .int .i64 0, .slice L k lc, .slice S ns sc, .int .i64 (k : Nat), .slice O 0 oc] (fun x => (Sl x 7 A n (WT wl) ∧ (Sl x 7 Ac n (WT wl) ∧ Sl x 4 Bc m (GT (gotsL m))) ∧ LgW x KA WA KB WB L S O lc 0 k ns 0 es k z) ∧ (q = 1 → Blk x gm 61 #[.int .i64 4, .int .i64 0, .slice (some ⟨rm, 0, none⟩) 8 rc] ∧ Sl x 1 (some ⟨rm, 0, none⟩) 8 [1, 4, (m : Int) + 1, 1, ea, eb, 0, 0])))
                  case first =>
                    rcases hq with ⟨hq0, hmn⟩ | ⟨hq1, hmn, hAs, hrc⟩
                    · subst hq0
                      have HMN := Lib.hid hmn
                      clear hmn
                      go_wp2_with fail
                      go_meet
                      exact ⟨false, rfl, fun h => (by cases h), fun _ => .inl (by first | rfl | trivial), HX.out⟩
                    · subst hq1
                      have HAS := Lib.hid (And.intro hmn (And.intro hAs hrc))
                      clear hmn hAs hrc
                      cases cb with
                      | true =>
                        go_wp2_with fail
                        go_meet
                        exact ⟨true, rfl, fun _ => (by first | rfl | trivial), fun h => (by cases h), HX.out⟩
                      | false =>
                        go_wp2_with fail
                        refine (below_dc p 3 _ HX.out.d (by omega)).mono ?_
                        rintro e v2 ⟨x, rfl, ⟨x0, x1⟩, D2, W2⟩
                        have HX2 := HX.out.dice W2 D2
                        by_cases hx : 0 < x
                        · go_wp2_with fail
                          go_meet
                          exact ⟨true, rfl, fun _ => (by first | rfl | trivial), fun h => (by cases h), HX2⟩
                        · obtain rfl : x = 0 := by omega
                          go_wp2_with fail
                          go_meet
                          exact ⟨false, rfl, fun h => (by cases h), fun _ => .inr (by first | rfl | trivial), HX2⟩
                  case rest =>
                    obtain ⟨b, rfl, hb1, hb2, HX2⟩ := hcut
                    rename World => v2
                    have HX2 := Lib.hid HX2
                    clear HX
                    cases b with
                    | false =>
                      have HB := Lib.hid (And.intro hq hb2)
                      clear hb1 hb2 hq
                      go_wp2_with fail
                      go_meet
                      unfold RL3
                      refine ⟨some ⟨gE, 0, none⟩, 0, 0, 0, k, ns, 0, k, es, z, rfl, .inl ⟨rfl, rfl, .inl rfl⟩, ⟨hm1, hm1, hm2, hm3⟩, fun hX => ?_, (fun h => by cases h), HE, Lib.hid ⟨Ac, cc, Bc, dc, KA, cA, WA, dA, KB, cB, WB, dB, H, hc, X, xc, L, lc, S, sc, O, oc, HX2.out.map (fun x h => h.1)⟩, Lib.hid (fun v _ => Sl.nil _ _ _)⟩
                      exfalso
                      obtain ⟨h1, h2⟩ := HB.out
                      rcases h2 (by first | rfl | trivial) with h | h
                      · rcases h1 with h3 | h3
                        · have := h3.2; omega
                        · have := h3.1; omega
                      · rw [h] at hX; cases hX.1
                    | true =>
                      have hq1 := hb1 (by first | rfl | trivial)
                      obtain ⟨hmn, hAs, hrc, hrm⟩ : m < n ∧ As = some ⟨gm, 0, none⟩ ∧ 8 ≤ rc ∧ rc ≤ maxLen := by
                        rcases hq with h | h
                        · have := h.1; omega
                        · exact h.2
                      clear hb1 hb2 hq
                      subst hq1 hAs
                      have HMN := Lib.hid hmn
                      have hG := HX2.out.ok.2 rfl
                      have m2 := hG.1.cell 2
                      have ltM := hG.1.lt
                      obtain ⟨hab, ha, hb⟩ := HAB.out hmn
                      have hask := send_ask (gots_client hwp (by omega) m (by omega)) (gotsL_len m) (by omega) hab (by decide)
                      have hcc := rowAsk_yes rm 0 rc 4 ((m : Int) + 1) 1 ea eb 0 0 v2 hG.2 hrc hrm hask
                      have HASK := Lib.hid (And.intro hask (And.intro hab (And.intro ha hb)))
                      clear hmn hab hask
                      go_wp2_with fail
                      refine hcc.mono ?_
                      rintro e v3 ⟨rfl, b3⟩
                      clear hcc hG m2 ltM
                      have HX3 := Lib.hid ((HX2.out.below b3).map (fun x h => h.1))
                      clear HX2 b3
                      go_upto_region 21 with fail
                      obtain ⟨v4, hv4⟩ : ∃ x : World, x = v3.alloc (.cells #[.int .i64 4, .int .i64 ((m : Int) + 1), .int .i64 1, .int .i64 ea, .int .i64 eb, .int .i64 0, .int .i64 0] 56) := ⟨_, rfl⟩
                      rw [← hv4]
                      obtain ⟨gQ, hgQ⟩ : ∃ q, q = v3.heap.size := ⟨_, rfl⟩
                      rw [← hgQ]
                      have HX4 : Hid (LX w v4 p g6 g7 #[.int .i64 4, .slice Ac n cc, .slice Bc m dc, .int .i64 (m : Nat)] #[.slice KA 22 cA, .slice WA 0 dA, .slice KB 22 cB, .slice WB 0 dB, .int .i64 0, .int .i64 0, .int .i64 0, .slice H 0 hc, .int .i64 0, .int .i64 0, .int .i64 0, .slice X 0 xc, .bool false, .int .i64 0, .int .i64 0, .slice L k lc, .slice S ns sc, .int .i64 (k : Nat), .slice O 0 oc] (fun x => (Sl x 7 A n (WT wl) ∧ (Sl x 7 Ac n (WT wl) ∧ Sl x 4 Bc m (GT (gotsL m))) ∧ LgW x KA WA KB WB L S O lc 0 k ns 0 es k z) ∧ Blk x gQ 56 #[.int .i64 4, .int .i64 ((m : Int) + 1), .int .i64 1, .int .i64 ea, .int .i64 eb, .int .i64 0, .int .i64 0])) := by
                        rw [hv4]
                        have hq := (Blk.on (Blk.new v3 56 #[.int .i64 4, .int .i64 ((m : Int) + 1), .int .i64 1, .int .i64 ea, .int .i64 eb, .int .i64 0, .int .i64 0])).sub (T := Rg v3.heap.size (v3.alloc (.cells #[.int .i64 4, .int .i64 ((m : Int) + 1), .int .i64 1, .int .i64 ea, .int .i64 eb, .int .i64 0, .int .i64 0] 56)).heap.size) (fun k hk => by rw [hk]; exact ⟨Nat.le_refl _, by simp⟩)
                        rw [hgQ]
                        exact Lib.hid (HX3.out.add ((Below.refl _ _).alloc (Nat.le_refl _) _) (Nat.le_refl _) hq)
                      clear HX3 hv4 hgQ
                      go_cut [10] from 53 to 94 (fun av wx => RL3 av wx w True p g6 g7 A n wl m ∧ On (Sx p g6 g7) (fun x => Blk x gQ 56 #[.int .i64 4, .int .i64 ((m : Int) + 1), .int .i64 1, .int .i64 ea, .int .i64 eb, .int .i64 0, .int .i64 0]) wx)
                      case first =>
                        have HXA := HX4
                        clear HX4
                        by_cases hkm : k = m
                        · as_aux_lemma =>
                            have HKM := Lib.hid hkm
                            clear hkm
                            refine wp_region_P (fun w' => Blk w' g7 51 #[.slice KA 22 cA, .slice WA 0 dA, .slice KB 22 cB, .slice WB 0 dB, .int .i64 0, .int .i64 0, .int .i64 0, .slice H 0 hc, .int .i64 0, .int .i64 0, .int .i64 0, .slice X 0 xc, .bool false, .int .i64 0, .int .i64 0, .slice L k lc, .slice S ns sc, .int .i64 (k : Nat), .slice O 0 oc] ∧ Blk w' gQ 56 #[.int .i64 4, .int .i64 ((m : Int) + 1), .int .i64 1, .int .i64 ea, .int .i64 eb, .int .i64 0, .int .i64 0]) 8 (by as_aux_lemma => kernel_rfl) ⟨HXA.out.k7.drew, HXA.out.drew.ok.2⟩ (fun hS => ?_)
                            obtain ⟨u0, hu0⟩ : ∃ x : World, x = v4.drew := ⟨_, rfl⟩
                            rw [← hu0] at hS ⊢
                            have HU0 := HXA.out.drew
                            rw [← hu0] at HU0
                            have HU0 := Lib.hid HU0
                            clear hu0 HXA
                            refine wpAnyP_take (i := 0) (oi := _) (v := _) rfl (by as_aux_lemma => kernel_rfl) (by as_aux_lemma => kernel_rfl) (by as_aux_lemma => kernel_rfl) (by decide) (by as_aux_lemma => kernel_rfl) (by rfl) (fun _ _ _ h => h) (yieldsIf_load_mid (by rfl) 51 (.tmp 7) rfl g7 0 rfl [.slice KA 22 cA, .slice WA 0 dA, .slice KB 22 cB, .slice WB 0 dB, .int .i64 0, .int .i64 0, .int .i64 0, .slice H 0 hc, .int .i64 0, .int .i64 0, .int .i64 0, .slice X 0 xc, .bool false, .int .i64 0, .int .i64 0, .slice L k lc, .slice S ns sc, .int .i64 (k : Nat), .slice O 0 oc] _ (fun w' h => blk_range h.1 _ rfl) Tryz.underlying51 rfl (by as_aux_lemma => kernel_rfl)) hS ?_
                            change wpAnyP _ _ _ _ _ _ _ _ (Act.put _ (some 77) _) _
                            simp only [Act.put, List.setIfInBounds_toArray, List.set_cons_zero, List.set_cons_succ]
                            refine wpAnyP_take (i := 1) (oi := _) (v := _) rfl (by as_aux_lemma => kernel_rfl) (by as_aux_lemma => kernel_rfl) (by as_aux_lemma => kernel_rfl) (by decide) (by as_aux_lemma => kernel_rfl) (by rfl) (fun _ _ _ h => h) (yieldsIf_load_mid (by rfl) 56 (.tmp 13) rfl gQ 0 rfl [.int .i64 4, .int .i64 ((m : Int) + 1), .int .i64 1, .int .i64 ea, .int .i64 eb, .int .i64 0, .int .i64 0] _ (fun w' h => blk_range h.2 _ rfl) Tryz.underlying56 rfl (by as_aux_lemma => kernel_rfl)) hS ?_
                            change wpAnyP _ _ _ _ _ _ _ _ (Act.put _ (some 78) _) _
                            simp only [Act.put, List.setIfInBounds_toArray, List.set_cons_zero, List.set_cons_succ]
                            refine wpAnyP_take0 (i := 2) (oi := _) (v := ?_) rfl (by as_aux_lemma => kernel_rfl) (by as_aux_lemma => kernel_rfl) (by as_aux_lemma => kernel_rfl) (by decide) (fun _ _ _ h => h) (Or.inl ⟨by rfl, ?_⟩) hS ?_
                            rotate_left 1
                            · intro w hSw; clear hSw; (go_simp <;> with_reducible rfl)
                            change wpAnyP _ _ _ _ _ _ _ _ (Act.put _ (some 79) _) _
                            simp only [Act.put, List.setIfInBounds_toArray, List.set_cons_zero, List.set_cons_succ]
                            refine wpAnyP_one (i := 3) (o := _) (by as_aux_lemma => kernel_rfl) rfl (fun K hK => ?_)
                            go_simp
                            go_at_call 6
                            refine (below_dc p 50 u0 HU0.out.d (by omega)).mono ?_
                            rintro e u1 ⟨now, rfl, ⟨now0, now1⟩, DD, WW⟩
                            have HU1 := Lib.hid (HU0.out.dice WW DD)
                            clear DD WW
                            have hti : inB now 0 1000000 = true := by unfold inB; simp; omega
                            replace hS := ((⟨HU1.out.k7, HU1.out.ok.2⟩ : (Blk u1 g7 51 #[.slice KA 22 cA, .slice WA 0 dA, .slice KB 22 cB, .slice WB 0 dB, .int .i64 0, .int .i64 0, .int .i64 0, .slice H 0 hc, .int .i64 0, .int .i64 0, .int .i64 0, .slice X 0 xc, .bool false, .int .i64 0, .int .i64 0, .slice L k lc, .slice S ns sc, .int .i64 (k : Nat), .slice O 0 oc]) ∧ (Blk u1 gQ 56 #[.int .i64 4, .int .i64 ((m : Int) + 1), .int .i64 1, .int .i64 ea, .int .i64 eb, .int .i64 0, .int .i64 0])))
                            refine hK.out _ _ (Or.inr hS) ?_
                            clear hK K
                            try change wpAnyP _ _ _ _ _ _ _ _ (Act.put _ (some 80) _) _
                            try simp only [Act.put, List.setIfInBounds_toArray, List.set_cons_zero, List.set_cons_succ]
                            refine wpAnyP_one (i := 4) (o := _) (by as_aux_lemma => kernel_rfl) rfl (fun K hK => ?_)
                            go_simp
                            go_at_call 11
                            have hGn := HU1.out.ok.1.2.2
                            have hcc := ask_fresh KA cA WA dA KB cB WB dB H hc X xc L lc S sc O oc k ns es z ea eb (max now (timeL es)) now ((m : Int) + 1) (by have := HKM.out; omega) rfl u1 hGn (by omega) (fresh_ok hGn.p (by rw [← hGn.hn]; exact HKM.out) (by omega) rfl (by omega) HASK.out.2.2.1 HASK.out.2.2.2) hti
                            refine hcc.mono ?_
                            clear hcc
                            rintro e u2 ⟨KA2, cA2, WA2, dA2, KB2, cB2, WB2, dB2, H2, hc2, X2, xc2, L2, lc2, S2, sc2, O2, oc2, rfl, hO, bb⟩
                            have HU2 := Lib.hid (HU1.out.add bb (Nat.le_refl _) hO)
                            clear bb hO
                            replace hS := ((⟨HU2.out.k7, HU2.out.ok.1.2⟩ : (Blk u2 g7 51 #[.slice KA 22 cA, .slice WA 0 dA, .slice KB 22 cB, .slice WB 0 dB, .int .i64 0, .int .i64 0, .int .i64 0, .slice H 0 hc, .int .i64 0, .int .i64 0, .int .i64 0, .slice X 0 xc, .bool false, .int .i64 0, .int .i64 0, .slice L k lc, .slice S ns sc, .int .i64 (k : Nat), .slice O 0 oc]) ∧ (Blk u2 gQ 56 #[.int .i64 4, .int .i64 ((m : Int) + 1), .int .i64 1, .int .i64 ea, .int .i64 eb, .int .i64 0, .int .i64 0])))
                            refine hK.out _ _ (Or.inr hS) ?_
                            clear hK K
                            try change wpAnyP _ _ _ _ _ _ _ _ (Act.put _ (some 81) _) _
                            try simp only [Act.put, List.setIfInBounds_toArray, List.set_cons_zero, List.set_cons_succ]
                            refine wpAnyP_take0 (i := 5) (oi := _) (v := ?_) rfl (by as_aux_lemma => kernel_rfl) (by as_aux_lemma => kernel_rfl) (by as_aux_lemma => kernel_rfl) (by decide) (fun _ _ _ h => h) (Or.inl ⟨by rfl, ?_⟩) hS ?_
                            rotate_left 1
                            · intro w hSw; clear hSw; (go_simp <;> with_reducible rfl)
                            change wpAnyP _ _ _ _ _ _ _ _ (Act.put _ (some 76) _) _
                            simp only [Act.put, List.setIfInBounds_toArray, List.set_cons_zero, List.set_cons_succ]
                            refine wpAnyP_take0 (i := 6) (oi := _) (v := ?_) rfl (by as_aux_lemma => kernel_rfl) (by as_aux_lemma => kernel_rfl) (by as_aux_lemma => kernel_rfl) (by decide) (fun _ _ _ h => h) (Or.inl ⟨by rfl, ?_⟩) hS ?_
                            rotate_left 1
                            · intro w hSw; clear hSw; (go_simp <;> with_reducible rfl)
                            change wpAnyP _ _ _ _ _ _ _ _ (Act.put _ (some 82) _) _
                            simp only [Act.put, List.setIfInBounds_toArray, List.set_cons_zero, List.set_cons_succ]
                            refine wpAnyP_take0 (i := 7) (oi := _) (v := ?_) rfl (by as_aux_lemma => kernel_rfl) (by as_aux_lemma => kernel_rfl) (by as_aux_lemma => kernel_rfl) (by decide) (fun _ _ _ h => h) (Or.inl ⟨by rfl, ?_⟩) hS ?_
                            rotate_left 1
                            · intro w hSw; clear hSw; (go_simp <;> with_reducible rfl)
                            change wpAnyP _ _ _ _ _ _ _ _ (Act.put _ (some 83) _) _
                            simp only [Act.put, List.setIfInBounds_toArray, List.set_cons_zero, List.set_cons_succ]
                            refine wpAnyP_one (i := 8) (o := _) (by as_aux_lemma => kernel_rfl) rfl (fun K hK => ?_)
                            rw [if_pos (by rfl)]
                            refine wp_store_row 51 (.tmp 7) (.tmp 82) rfl g7 #[.slice KA2 22 cA2, .slice WA2 1 dA2, .slice KB2 22 cB2, .slice WB2 1 dB2, .int .i64 0, .int .i64 0, .int .i64 0, .slice H2 0 hc2, .int .i64 0, .int .i64 0, .int .i64 0, .slice X2 0 xc2, .bool false, .int .i64 0, .int .i64 0, .slice L2 (k + 1) lc2, .slice S2 1 sc2, .int .i64 (k : Nat), .slice O2 1 oc2] rfl rfl 51 #[.slice KA 22 cA, .slice WA 0 dA, .slice KB 22 cB, .slice WB 0 dB, .int .i64 0, .int .i64 0, .int .i64 0, .slice H 0 hc, .int .i64 0, .int .i64 0, .int .i64 0, .slice X 0 xc, .bool false, .int .i64 0, .int .i64 0, .slice L k lc, .slice S ns sc, .int .i64 (k : Nat), .slice O 0 oc] HU2.out.k7 (by as_aux_lemma => kernel_rfl) rfl (by simp [Value.oneCell']) ?_
                            refine hK.out _ _ (Or.inl rfl) ?_
                            clear hK K
                            try change wpAnyP _ _ _ _ _ _ _ _ (Act.put _ none _) _
                            try simp only [Act.put, List.setIfInBounds_toArray, List.set_cons_zero, List.set_cons_succ]
                            refine wpAnyP_one (i := 9) (o := _) (by as_aux_lemma => kernel_rfl) rfl (fun K hK => ?_)
                            go_simp
                            refine hK.out _ _ (Or.inl rfl) ?_
                            clear hK K
                            try change wpAnyP _ _ _ _ _ _ _ _ (Act.put _ (some 10) _) _
                            try simp only [Act.put, List.setIfInBounds_toArray, List.set_cons_zero, List.set_cons_succ]
                            refine wpAnyP_done (by as_aux_lemma => kernel_rfl) ?_ _
                            go_wp2_with fail
                            go_meet
                            have hkm := HKM.out
                            refine ⟨?_, (HU2.out.put7 #[.slice KA2 22 cA2, .slice WA2 1 dA2, .slice KB2 22 cB2, .slice WB2 1 dB2, .int .i64 0, .int .i64 0, .int .i64 0, .slice H2 0 hc2, .int .i64 0, .int .i64 0, .int .i64 0, .slice X2 0 xc2, .bool false, .int .i64 0, .int .i64 0, .slice L2 (k + 1) lc2, .slice S2 1 sc2, .int .i64 (k : Nat), .slice O2 1 oc2]).f.map (fun x h => h.1.2)⟩
                            unfold RL3
                            have hes := HU2.out.ok.1.1.2.2
                            exact ⟨none, 0, 0, 1, k + 1, 1, 1, k, es ++ [⟨(m : Int) + 1, max now (timeL es), 4, (m : Int) + 1, 1, ea, eb, 0, 0⟩], z, rfl, .inl ⟨rfl, rfl, .inr ⟨rfl, by omega⟩⟩, ⟨by omega, by omega, by omega, by have := HMN.out; omega⟩, fun _ => ⟨by omega, .inr (by omega)⟩, fun _ => ⟨rfl, rfl⟩,
                              Lib.hid (HE.out.snoc (by rw [← hes.hn]; have := HMN.out; omega) (by rw [← hes.hn, hkm, HASK.out.2.1]) (by rw [← hes.hn, hkm, HASK.out.2.1])), Lib.hid ⟨Ac, cc, Bc, dc, KA2, cA2, WA2, dA2, KB2, cB2, WB2, dB2, H2, hc2, X2, xc2, L2, lc2, S2, sc2, O2, oc2, (HU2.out.put7 #[.slice KA2 22 cA2, .slice WA2 1 dA2, .slice KB2 22 cB2, .slice WB2 1 dB2, .int .i64 0, .int .i64 0, .int .i64 0, .slice H2 0 hc2, .int .i64 0, .int .i64 0, .int .i64 0, .slice X2 0 xc2, .bool false, .int .i64 0, .int .i64 0, .slice L2 (k + 1) lc2, .slice S2 1 sc2, .int .i64 (k : Nat), .slice O2 1 oc2]).map (fun x h => ⟨h.1.1.1, h.1.1.2.1, h.2⟩)⟩, Lib.hid (fun v _ => Sl.nil _ _ _)⟩
                        · as_aux_lemma =>
                            have HKM := Lib.hid (show k = m + 1 by omega)
                            clear hkm
                            refine wp_region_P (fun w' => Blk w' g7 51 #[.slice KA 22 cA, .slice WA 0 dA, .slice KB 22 cB, .slice WB 0 dB, .int .i64 0, .int .i64 0, .int .i64 0, .slice H 0 hc, .int .i64 0, .int .i64 0, .int .i64 0, .slice X 0 xc, .bool false, .int .i64 0, .int .i64 0, .slice L k lc, .slice S ns sc, .int .i64 (k : Nat), .slice O 0 oc] ∧ Blk w' gQ 56 #[.int .i64 4, .int .i64 ((m : Int) + 1), .int .i64 1, .int .i64 ea, .int .i64 eb, .int .i64 0, .int .i64 0]) 8 (by as_aux_lemma => kernel_rfl) ⟨HXA.out.k7.drew, HXA.out.drew.ok.2⟩ (fun hS => ?_)
                            obtain ⟨u0, hu0⟩ : ∃ x : World, x = v4.drew := ⟨_, rfl⟩
                            rw [← hu0] at hS ⊢
                            have HU0 := HXA.out.drew
                            rw [← hu0] at HU0
                            have HU0 := Lib.hid HU0
                            clear hu0 HXA
                            refine wpAnyP_take (i := 0) (oi := _) (v := _) rfl (by as_aux_lemma => kernel_rfl) (by as_aux_lemma => kernel_rfl) (by as_aux_lemma => kernel_rfl) (by decide) (by as_aux_lemma => kernel_rfl) (by rfl) (fun _ _ _ h => h) (yieldsIf_load_mid (by rfl) 51 (.tmp 7) rfl g7 0 rfl [.slice KA 22 cA, .slice WA 0 dA, .slice KB 22 cB, .slice WB 0 dB, .int .i64 0, .int .i64 0, .int .i64 0, .slice H 0 hc, .int .i64 0, .int .i64 0, .int .i64 0, .slice X 0 xc, .bool false, .int .i64 0, .int .i64 0, .slice L k lc, .slice S ns sc, .int .i64 (k : Nat), .slice O 0 oc] _ (fun w' h => blk_range h.1 _ rfl) Tryz.underlying51 rfl (by as_aux_lemma => kernel_rfl)) hS ?_
                            change wpAnyP _ _ _ _ _ _ _ _ (Act.put _ (some 77) _) _
                            simp only [Act.put, List.setIfInBounds_toArray, List.set_cons_zero, List.set_cons_succ]
                            refine wpAnyP_take (i := 1) (oi := _) (v := _) rfl (by as_aux_lemma => kernel_rfl) (by as_aux_lemma => kernel_rfl) (by as_aux_lemma => kernel_rfl) (by decide) (by as_aux_lemma => kernel_rfl) (by rfl) (fun _ _ _ h => h) (yieldsIf_load_mid (by rfl) 56 (.tmp 13) rfl gQ 0 rfl [.int .i64 4, .int .i64 ((m : Int) + 1), .int .i64 1, .int .i64 ea, .int .i64 eb, .int .i64 0, .int .i64 0] _ (fun w' h => blk_range h.2 _ rfl) Tryz.underlying56 rfl (by as_aux_lemma => kernel_rfl)) hS ?_
                            change wpAnyP _ _ _ _ _ _ _ _ (Act.put _ (some 78) _) _
                            simp only [Act.put, List.setIfInBounds_toArray, List.set_cons_zero, List.set_cons_succ]
                            refine wpAnyP_take0 (i := 2) (oi := _) (v := ?_) rfl (by as_aux_lemma => kernel_rfl) (by as_aux_lemma => kernel_rfl) (by as_aux_lemma => kernel_rfl) (by decide) (fun _ _ _ h => h) (Or.inl ⟨by rfl, ?_⟩) hS ?_
                            rotate_left 1
                            · intro w hSw; clear hSw; (go_simp <;> with_reducible rfl)
                            change wpAnyP _ _ _ _ _ _ _ _ (Act.put _ (some 79) _) _
                            simp only [Act.put, List.setIfInBounds_toArray, List.set_cons_zero, List.set_cons_succ]
                            refine wpAnyP_one (i := 3) (o := _) (by as_aux_lemma => kernel_rfl) rfl (fun K hK => ?_)
                            go_simp
                            go_at_call 6
                            refine (below_dc p 50 u0 HU0.out.d (by omega)).mono ?_
                            rintro e u1 ⟨now, rfl, ⟨now0, now1⟩, DD, WW⟩
                            have HU1 := Lib.hid (HU0.out.dice WW DD)
                            clear DD WW
                            have hti : inB now 0 1000000 = true := by unfold inB; simp; omega
                            replace hS := ((⟨HU1.out.k7, HU1.out.ok.2⟩ : (Blk u1 g7 51 #[.slice KA 22 cA, .slice WA 0 dA, .slice KB 22 cB, .slice WB 0 dB, .int .i64 0, .int .i64 0, .int .i64 0, .slice H 0 hc, .int .i64 0, .int .i64 0, .int .i64 0, .slice X 0 xc, .bool false, .int .i64 0, .int .i64 0, .slice L k lc, .slice S ns sc, .int .i64 (k : Nat), .slice O 0 oc]) ∧ (Blk u1 gQ 56 #[.int .i64 4, .int .i64 ((m : Int) + 1), .int .i64 1, .int .i64 ea, .int .i64 eb, .int .i64 0, .int .i64 0])))
                            refine hK.out _ _ (Or.inr hS) ?_
                            clear hK K
                            try change wpAnyP _ _ _ _ _ _ _ _ (Act.put _ (some 80) _) _
                            try simp only [Act.put, List.setIfInBounds_toArray, List.set_cons_zero, List.set_cons_succ]
                            refine wpAnyP_one (i := 4) (o := _) (by as_aux_lemma => kernel_rfl) rfl (fun K hK => ?_)
                            go_simp
                            go_at_call 11
                            have hcc := ask_done KA cA WA dA KB cB WB dB H hc X xc L lc S sc O oc 0 k ns 0 k es z ea eb now ((m : Int) + 1) (by have := HKM.out; omega) u1 HU1.out.ok.1.2.2 rfl HASK.out.1 hti
                            refine hcc.mono ?_
                            clear hcc
                            rintro e u2 ⟨KA2, cA2, WA2, dA2, KB2, cB2, WB2, dB2, H2, hc2, X2, xc2, L2, lc2, S2, sc2, O2, oc2, gA, rfl, hO, bb⟩
                            have HU2 := Lib.hid (HU1.out.add bb (Nat.le_refl _) hO)
                            clear bb hO
                            replace hS := ((⟨HU2.out.k7, HU2.out.ok.1.2⟩ : (Blk u2 g7 51 #[.slice KA 22 cA, .slice WA 0 dA, .slice KB 22 cB, .slice WB 0 dB, .int .i64 0, .int .i64 0, .int .i64 0, .slice H 0 hc, .int .i64 0, .int .i64 0, .int .i64 0, .slice X 0 xc, .bool false, .int .i64 0, .int .i64 0, .slice L k lc, .slice S ns sc, .int .i64 (k : Nat), .slice O 0 oc]) ∧ (Blk u2 gQ 56 #[.int .i64 4, .int .i64 ((m : Int) + 1), .int .i64 1, .int .i64 ea, .int .i64 eb, .int .i64 0, .int .i64 0])))
                            refine hK.out _ _ (Or.inr hS) ?_
                            clear hK K
                            try change wpAnyP _ _ _ _ _ _ _ _ (Act.put _ (some 81) _) _
                            try simp only [Act.put, List.setIfInBounds_toArray, List.set_cons_zero, List.set_cons_succ]
                            refine wpAnyP_take0 (i := 5) (oi := _) (v := ?_) rfl (by as_aux_lemma => kernel_rfl) (by as_aux_lemma => kernel_rfl) (by as_aux_lemma => kernel_rfl) (by decide) (fun _ _ _ h => h) (Or.inl ⟨by rfl, ?_⟩) hS ?_
                            rotate_left 1
                            · intro w hSw; clear hSw; (go_simp <;> with_reducible rfl)
                            change wpAnyP _ _ _ _ _ _ _ _ (Act.put _ (some 76) _) _
                            simp only [Act.put, List.setIfInBounds_toArray, List.set_cons_zero, List.set_cons_succ]
                            refine wpAnyP_take0 (i := 6) (oi := _) (v := ?_) rfl (by as_aux_lemma => kernel_rfl) (by as_aux_lemma => kernel_rfl) (by as_aux_lemma => kernel_rfl) (by decide) (fun _ _ _ h => h) (Or.inl ⟨by rfl, ?_⟩) hS ?_
                            rotate_left 1
                            · intro w hSw; clear hSw; (go_simp <;> with_reducible rfl)
                            change wpAnyP _ _ _ _ _ _ _ _ (Act.put _ (some 82) _) _
                            simp only [Act.put, List.setIfInBounds_toArray, List.set_cons_zero, List.set_cons_succ]
                            refine wpAnyP_take0 (i := 7) (oi := _) (v := ?_) rfl (by as_aux_lemma => kernel_rfl) (by as_aux_lemma => kernel_rfl) (by as_aux_lemma => kernel_rfl) (by decide) (fun _ _ _ h => h) (Or.inl ⟨by rfl, ?_⟩) hS ?_
                            rotate_left 1
                            · intro w hSw; clear hSw; (go_simp <;> with_reducible rfl)
                            change wpAnyP _ _ _ _ _ _ _ _ (Act.put _ (some 83) _) _
                            simp only [Act.put, List.setIfInBounds_toArray, List.set_cons_zero, List.set_cons_succ]
                            refine wpAnyP_one (i := 8) (o := _) (by as_aux_lemma => kernel_rfl) rfl (fun K hK => ?_)
                            rw [if_pos (by rfl)]
                            refine wp_store_row 51 (.tmp 7) (.tmp 82) rfl g7 #[.slice KA2 22 cA2, .slice WA2 0 dA2, .slice KB2 22 cB2, .slice WB2 0 dB2, .int .i64 0, .int .i64 0, .int .i64 0, .slice H2 0 hc2, .int .i64 0, .int .i64 0, .int .i64 0, .slice X2 0 xc2, .bool false, .int .i64 0, .int .i64 0, .slice L2 k lc2, .slice S2 ns sc2, .int .i64 (k : Nat), .slice O2 0 oc2] rfl rfl 51 #[.slice KA 22 cA, .slice WA 0 dA, .slice KB 22 cB, .slice WB 0 dB, .int .i64 0, .int .i64 0, .int .i64 0, .slice H 0 hc, .int .i64 0, .int .i64 0, .int .i64 0, .slice X 0 xc, .bool false, .int .i64 0, .int .i64 0, .slice L k lc, .slice S ns sc, .int .i64 (k : Nat), .slice O 0 oc] HU2.out.k7 (by as_aux_lemma => kernel_rfl) rfl (by simp [Value.oneCell']) ?_
                            refine hK.out _ _ (Or.inl rfl) ?_
                            clear hK K
                            try change wpAnyP _ _ _ _ _ _ _ _ (Act.put _ none _) _
                            try simp only [Act.put, List.setIfInBounds_toArray, List.set_cons_zero, List.set_cons_succ]
                            refine wpAnyP_one (i := 9) (o := _) (by as_aux_lemma => kernel_rfl) rfl (fun K hK => ?_)
                            go_simp
                            refine hK.out _ _ (Or.inl rfl) ?_
                            clear hK K
                            try change wpAnyP _ _ _ _ _ _ _ _ (Act.put _ (some 10) _) _
                            try simp only [Act.put, List.setIfInBounds_toArray, List.set_cons_zero, List.set_cons_succ]
                            refine wpAnyP_done (by as_aux_lemma => kernel_rfl) ?_ _
                            go_wp2_with fail
                            go_meet
                            have hkm := HKM.out
                            refine ⟨?_, (HU2.out.put7 #[.slice KA2 22 cA2, .slice WA2 0 dA2, .slice KB2 22 cB2, .slice WB2 0 dB2, .int .i64 0, .int .i64 0, .int .i64 0, .slice H2 0 hc2, .int .i64 0, .int .i64 0, .int .i64 0, .slice X2 0 xc2, .bool false, .int .i64 0, .int .i64 0, .slice L2 k lc2, .slice S2 ns sc2, .int .i64 (k : Nat), .slice O2 0 oc2]).f.map (fun x h => h.1.2)⟩
                            unfold RL3
                            exact ⟨some ⟨gA, 0, none⟩, 1, 1, 0, k, ns, 0, k, es, z, rfl, .inr ⟨rfl, by omega, rfl, by omega⟩, ⟨by omega, by omega, by omega, by omega⟩, fun _ => ⟨by omega, .inl rfl⟩, fun h => (by cases h), HE,
                              Lib.hid ⟨Ac, cc, Bc, dc, KA2, cA2, WA2, dA2, KB2, cB2, WB2, dB2, H2, hc2, X2, xc2, L2, lc2, S2, sc2, O2, oc2, (HU2.out.put7 #[.slice KA2 22 cA2, .slice WA2 0 dA2, .slice KB2 22 cB2, .slice WB2 0 dB2, .int .i64 0, .int .i64 0, .int .i64 0, .slice H2 0 hc2, .int .i64 0, .int .i64 0, .int .i64 0, .slice X2 0 xc2, .bool false, .int .i64 0, .int .i64 0, .slice L2 k lc2, .slice S2 ns sc2, .int .i64 (k : Nat), .slice O2 0 oc2]).map (fun x h => ⟨h.1.1.1, h.1.1.2.1, h.2.1⟩)⟩, Lib.hid ((HU2.out.put7 #[.slice KA2 22 cA2, .slice WA2 0 dA2, .slice KB2 22 cB2, .slice WB2 0 dB2, .int .i64 0, .int .i64 0, .int .i64 0, .slice H2 0 hc2, .int .i64 0, .int .i64 0, .int .i64 0, .slice X2 0 xc2, .bool false, .int .i64 0, .int .i64 0, .slice L2 k lc2, .slice S2 ns sc2, .int .i64 (k : Nat), .slice O2 0 oc2]).f.map (fun x h => by rw [show ackM 1 m = [4, (k : Int), (k : Int), (k : Int)] by unfold ackM; rw [if_neg (by decide), show (m : Int) + 1 = (k : Int) by omega]]; exact h.2.2))⟩
                      case rest =>
                        obtain ⟨H3, HQ⟩ := hcut
                        rename World => v5
                        unfold RL3 at H3
                        obtain ⟨Aa, q3, ca3, k3, n3, ns3, no3, D3, es3, z3, rfl, hq3, hb3, hX3, hA3, HE3, HL3, HAa⟩ := H3
                        obtain ⟨A3c, c3c, B3c, d3c, KA3, cA3, WA3, dA3, KB3, cB3, WB3, dB3, H3, hc3, X3, xc3, L3, lc3, S3, sc3, O3, oc3, HX5⟩ := HL3.out
                        have HX5 := Lib.hid ((HX5.plus HQ).plus HAa.out)
                        replace hX3 := hX3 trivial
                        have HF3 := Lib.hid (And.intro hq3 (And.intro hb3 (And.intro hX3 hA3)))
                        clear HL3 HQ HAa hq3 hb3 hX3 hA3 HX4
                        go_wp2_with fail
                        refine (below_dc p 3 v5 HX5.out.d (by omega)).mono ?_
                        rintro e v6 ⟨y, rfl, ⟨y0, y1⟩, DD, WW⟩
                        have HX6 := Lib.hid (HX5.out.dice WW DD)
                        clear HX5 DD WW
                        by_cases hy : y = 0
                        · as_aux_lemma =>
                            subst hy
                            go_upto_region 23 with fail
                            have HXA := HX6
                            clear HX6
                            by_cases hlt3 : D3 < n3
                            · as_aux_lemma =>
                                have HLT := Lib.hid hlt3
                                clear hlt3
                                refine wp_region_P (fun w' => Blk w' g7 51 #[.slice KA3 22 cA3, .slice WA3 k3 dA3, .slice KB3 22 cB3, .slice WB3 k3 dB3, .int .i64 0, .int .i64 0, .int .i64 0, .slice H3 0 hc3, .int .i64 0, .int .i64 0, .int .i64 0, .slice X3 0 xc3, .bool false, .int .i64 0, .int .i64 0, .slice L3 n3 lc3, .slice S3 ns3 sc3, .int .i64 (D3 : Nat), .slice O3 no3 oc3] ∧ Blk w' gQ 56 #[.int .i64 4, .int .i64 ((m : Int) + 1), .int .i64 1, .int .i64 ea, .int .i64 eb, .int .i64 0, .int .i64 0]) 8 (by as_aux_lemma => kernel_rfl) ⟨HXA.out.k7.drew, HXA.out.drew.ok.1.2⟩ (fun hS => ?_)
                                obtain ⟨u0, hu0⟩ : ∃ x : World, x = v6.drew := ⟨_, rfl⟩
                                rw [← hu0] at hS ⊢
                                have HU0 := HXA.out.drew
                                rw [← hu0] at HU0
                                have HU0 := Lib.hid HU0
                                clear hu0 HXA
                                refine wpAnyP_take (i := 0) (oi := _) (v := _) rfl (by as_aux_lemma => kernel_rfl) (by as_aux_lemma => kernel_rfl) (by as_aux_lemma => kernel_rfl) (by decide) (by as_aux_lemma => kernel_rfl) (by rfl) (fun _ _ _ h => h) (yieldsIf_load_mid (by rfl) 51 (.tmp 7) rfl g7 0 rfl [.slice KA3 22 cA3, .slice WA3 k3 dA3, .slice KB3 22 cB3, .slice WB3 k3 dB3, .int .i64 0, .int .i64 0, .int .i64 0, .slice H3 0 hc3, .int .i64 0, .int .i64 0, .int .i64 0, .slice X3 0 xc3, .bool false, .int .i64 0, .int .i64 0, .slice L3 n3 lc3, .slice S3 ns3 sc3, .int .i64 (D3 : Nat), .slice O3 no3 oc3] _ (fun w' h => blk_range h.1 _ rfl) Tryz.underlying51 rfl (by as_aux_lemma => kernel_rfl)) hS ?_
                                change wpAnyP _ _ _ _ _ _ _ _ (Act.put _ (some 88) _) _
                                simp only [Act.put, List.setIfInBounds_toArray, List.set_cons_zero, List.set_cons_succ]
                                refine wpAnyP_take (i := 1) (oi := _) (v := _) rfl (by as_aux_lemma => kernel_rfl) (by as_aux_lemma => kernel_rfl) (by as_aux_lemma => kernel_rfl) (by decide) (by as_aux_lemma => kernel_rfl) (by rfl) (fun _ _ _ h => h) (yieldsIf_load_mid (by rfl) 56 (.tmp 13) rfl gQ 0 rfl [.int .i64 4, .int .i64 ((m : Int) + 1), .int .i64 1, .int .i64 ea, .int .i64 eb, .int .i64 0, .int .i64 0] _ (fun w' h => blk_range h.2 _ rfl) Tryz.underlying56 rfl (by as_aux_lemma => kernel_rfl)) hS ?_
                                change wpAnyP _ _ _ _ _ _ _ _ (Act.put _ (some 89) _) _
                                simp only [Act.put, List.setIfInBounds_toArray, List.set_cons_zero, List.set_cons_succ]
                                refine wpAnyP_take0 (i := 2) (oi := _) (v := ?_) rfl (by as_aux_lemma => kernel_rfl) (by as_aux_lemma => kernel_rfl) (by as_aux_lemma => kernel_rfl) (by decide) (fun _ _ _ h => h) (Or.inl ⟨by rfl, ?_⟩) hS ?_
                                rotate_left 1
                                · intro w hSw; clear hSw; (go_simp <;> with_reducible rfl)
                                change wpAnyP _ _ _ _ _ _ _ _ (Act.put _ (some 90) _) _
                                simp only [Act.put, List.setIfInBounds_toArray, List.set_cons_zero, List.set_cons_succ]
                                refine wpAnyP_one (i := 3) (o := _) (by as_aux_lemma => kernel_rfl) rfl (fun K hK => ?_)
                                go_simp
                                go_at_call 6
                                refine (below_dc p 50 u0 HU0.out.d (by omega)).mono ?_
                                rintro e u1 ⟨now, rfl, ⟨now0, now1⟩, DD, WW⟩
                                have HU1 := Lib.hid (HU0.out.dice WW DD)
                                clear DD WW
                                have hti : inB now 0 1000000 = true := by unfold inB; simp; omega
                                replace hS := ((⟨HU1.out.k7, HU1.out.ok.1.2⟩ : (Blk u1 g7 51 #[.slice KA3 22 cA3, .slice WA3 k3 dA3, .slice KB3 22 cB3, .slice WB3 k3 dB3, .int .i64 0, .int .i64 0, .int .i64 0, .slice H3 0 hc3, .int .i64 0, .int .i64 0, .int .i64 0, .slice X3 0 xc3, .bool false, .int .i64 0, .int .i64 0, .slice L3 n3 lc3, .slice S3 ns3 sc3, .int .i64 (D3 : Nat), .slice O3 no3 oc3]) ∧ (Blk u1 gQ 56 #[.int .i64 4, .int .i64 ((m : Int) + 1), .int .i64 1, .int .i64 ea, .int .i64 eb, .int .i64 0, .int .i64 0])))
                                refine hK.out _ _ (Or.inr hS) ?_
                                clear hK K
                                try change wpAnyP _ _ _ _ _ _ _ _ (Act.put _ (some 91) _) _
                                try simp only [Act.put, List.setIfInBounds_toArray, List.set_cons_zero, List.set_cons_succ]
                                refine wpAnyP_one (i := 4) (o := _) (by as_aux_lemma => kernel_rfl) rfl (fun K hK => ?_)
                                go_simp
                                go_at_call 11
                                have hcc := ask_owed KA3 cA3 WA3 dA3 KB3 cB3 WB3 dB3 H3 hc3 X3 xc3 L3 lc3 S3 sc3 O3 oc3 k3 n3 ns3 no3 D3 es3 z3 ea eb now ((m : Int) + 1) (by have := HF3.out.2.2.1.1; omega) u1 HU1.out.ok.1.1.2.2 HLT.out HASK.out.1 hti
                                refine hcc.mono ?_
                                clear hcc
                                rintro e u2 ⟨KA4, cA4, WA4, dA4, KB4, cB4, WB4, dB4, H4, hc4, X4, xc4, L4, lc4, S4, sc4, O4, oc4, rfl, hO, bb⟩
                                have HU2 := Lib.hid (HU1.out.add bb (Nat.le_refl _) hO)
                                clear bb hO
                                replace hS := ((⟨HU2.out.k7, HU2.out.ok.1.1.2⟩ : (Blk u2 g7 51 #[.slice KA3 22 cA3, .slice WA3 k3 dA3, .slice KB3 22 cB3, .slice WB3 k3 dB3, .int .i64 0, .int .i64 0, .int .i64 0, .slice H3 0 hc3, .int .i64 0, .int .i64 0, .int .i64 0, .slice X3 0 xc3, .bool false, .int .i64 0, .int .i64 0, .slice L3 n3 lc3, .slice S3 ns3 sc3, .int .i64 (D3 : Nat), .slice O3 no3 oc3]) ∧ (Blk u2 gQ 56 #[.int .i64 4, .int .i64 ((m : Int) + 1), .int .i64 1, .int .i64 ea, .int .i64 eb, .int .i64 0, .int .i64 0])))
                                refine hK.out _ _ (Or.inr hS) ?_
                                clear hK K
                                try change wpAnyP _ _ _ _ _ _ _ _ (Act.put _ (some 92) _) _
                                try simp only [Act.put, List.setIfInBounds_toArray, List.set_cons_zero, List.set_cons_succ]
                                refine wpAnyP_take0 (i := 5) (oi := _) (v := ?_) rfl (by as_aux_lemma => kernel_rfl) (by as_aux_lemma => kernel_rfl) (by as_aux_lemma => kernel_rfl) (by decide) (fun _ _ _ h => h) (Or.inl ⟨by rfl, ?_⟩) hS ?_
                                rotate_left 1
                                · intro w hSw; clear hSw; (go_simp <;> with_reducible rfl)
                                change wpAnyP _ _ _ _ _ _ _ _ (Act.put _ (some 87) _) _
                                simp only [Act.put, List.setIfInBounds_toArray, List.set_cons_zero, List.set_cons_succ]
                                refine wpAnyP_take0 (i := 6) (oi := _) (v := ?_) rfl (by as_aux_lemma => kernel_rfl) (by as_aux_lemma => kernel_rfl) (by as_aux_lemma => kernel_rfl) (by decide) (fun _ _ _ h => h) (Or.inl ⟨by rfl, ?_⟩) hS ?_
                                rotate_left 1
                                · intro w hSw; clear hSw; (go_simp <;> with_reducible rfl)
                                change wpAnyP _ _ _ _ _ _ _ _ (Act.put _ (some 93) _) _
                                simp only [Act.put, List.setIfInBounds_toArray, List.set_cons_zero, List.set_cons_succ]
                                refine wpAnyP_take0 (i := 7) (oi := _) (v := ?_) rfl (by as_aux_lemma => kernel_rfl) (by as_aux_lemma => kernel_rfl) (by as_aux_lemma => kernel_rfl) (by decide) (fun _ _ _ h => h) (Or.inl ⟨by rfl, ?_⟩) hS ?_
                                rotate_left 1
                                · intro w hSw; clear hSw; (go_simp <;> with_reducible rfl)
                                change wpAnyP _ _ _ _ _ _ _ _ (Act.put _ (some 94) _) _
                                simp only [Act.put, List.setIfInBounds_toArray, List.set_cons_zero, List.set_cons_succ]
                                refine wpAnyP_one (i := 8) (o := _) (by as_aux_lemma => kernel_rfl) rfl (fun K hK => ?_)
                                rw [if_pos (by rfl)]
                                refine wp_store_row 51 (.tmp 7) (.tmp 93) rfl g7 #[.slice KA4 22 cA4, .slice WA4 k3 dA4, .slice KB4 22 cB4, .slice WB4 k3 dB4, .int .i64 0, .int .i64 0, .int .i64 0, .slice H4 0 hc4, .int .i64 0, .int .i64 0, .int .i64 0, .slice X4 0 xc4, .bool false, .int .i64 0, .int .i64 0, .slice L4 n3 lc4, .slice S4 ns3 sc4, .int .i64 (D3 : Nat), .slice O4 no3 oc4] rfl rfl 51 #[.slice KA3 22 cA3, .slice WA3 k3 dA3, .slice KB3 22 cB3, .slice WB3 k3 dB3, .int .i64 0, .int .i64 0, .int .i64 0, .slice H3 0 hc3, .int .i64 0, .int .i64 0, .int .i64 0, .slice X3 0 xc3, .bool false, .int .i64 0, .int .i64 0, .slice L3 n3 lc3, .slice S3 ns3 sc3, .int .i64 (D3 : Nat), .slice O3 no3 oc3] HU2.out.k7 (by as_aux_lemma => kernel_rfl) rfl (by simp [Value.oneCell']) ?_
                                refine hK.out _ _ (Or.inl rfl) ?_
                                clear hK K
                                try change wpAnyP _ _ _ _ _ _ _ _ (Act.put _ none _) _
                                try simp only [Act.put, List.setIfInBounds_toArray, List.set_cons_zero, List.set_cons_succ]
                                refine wpAnyP_done (by as_aux_lemma => kernel_rfl) ?_ _
                                go_wp2_with fail
                                go_roundg 0
                                case measure => omega
                                case rel =>
                                  refine .inr ⟨rfl, by go_num, ?_⟩
                                  unfold RL3
                                  obtain ⟨hq3, hb3, ⟨hn3, hX3⟩, hA3⟩ := HF3.out
                                  have hlt3 := HLT.out
                                  exact ⟨Aa, q3, ca3, k3, n3, ns3, no3, D3, es3, z3, rfl, hq3, hb3, fun _ => ⟨hn3, hX3⟩, hA3, HE3, Lib.hid ⟨A3c, c3c, B3c, d3c, KA4, cA4, WA4, dA4, KB4, cB4, WB4, dB4, H4, hc4, X4, xc4, L4, lc4, S4, sc4, O4, oc4, (HU2.out.put7 _).map (fun x h => ⟨h.1.1.1.1, h.1.1.1.2.1, h.2⟩)⟩, Lib.hid ((HU2.out.put7 _).f.map (fun x h => h.1.2))⟩
                            · as_aux_lemma =>
                                have HLT := Lib.hid (show D3 = n3 by have := HF3.out.1; omega)
                                clear hlt3
                                refine wp_region_P (fun w' => Blk w' g7 51 #[.slice KA3 22 cA3, .slice WA3 k3 dA3, .slice KB3 22 cB3, .slice WB3 k3 dB3, .int .i64 0, .int .i64 0, .int .i64 0, .slice H3 0 hc3, .int .i64 0, .int .i64 0, .int .i64 0, .slice X3 0 xc3, .bool false, .int .i64 0, .int .i64 0, .slice L3 n3 lc3, .slice S3 ns3 sc3, .int .i64 (D3 : Nat), .slice O3 no3 oc3] ∧ Blk w' gQ 56 #[.int .i64 4, .int .i64 ((m : Int) + 1), .int .i64 1, .int .i64 ea, .int .i64 eb, .int .i64 0, .int .i64 0]) 8 (by as_aux_lemma => kernel_rfl) ⟨HXA.out.k7.drew, HXA.out.drew.ok.1.2⟩ (fun hS => ?_)
                                obtain ⟨u0, hu0⟩ : ∃ x : World, x = v6.drew := ⟨_, rfl⟩
                                rw [← hu0] at hS ⊢
                                have HU0 := HXA.out.drew
                                rw [← hu0] at HU0
                                have HU0 := Lib.hid HU0
                                clear hu0 HXA
                                refine wpAnyP_take (i := 0) (oi := _) (v := _) rfl (by as_aux_lemma => kernel_rfl) (by as_aux_lemma => kernel_rfl) (by as_aux_lemma => kernel_rfl) (by decide) (by as_aux_lemma => kernel_rfl) (by rfl) (fun _ _ _ h => h) (yieldsIf_load_mid (by rfl) 51 (.tmp 7) rfl g7 0 rfl [.slice KA3 22 cA3, .slice WA3 k3 dA3, .slice KB3 22 cB3, .slice WB3 k3 dB3, .int .i64 0, .int .i64 0, .int .i64 0, .slice H3 0 hc3, .int .i64 0, .int .i64 0, .int .i64 0, .slice X3 0 xc3, .bool false, .int .i64 0, .int .i64 0, .slice L3 n3 lc3, .slice S3 ns3 sc3, .int .i64 (D3 : Nat), .slice O3 no3 oc3] _ (fun w' h => blk_range h.1 _ rfl) Tryz.underlying51 rfl (by as_aux_lemma => kernel_rfl)) hS ?_
                                change wpAnyP _ _ _ _ _ _ _ _ (Act.put _ (some 88) _) _
                                simp only [Act.put, List.setIfInBounds_toArray, List.set_cons_zero, List.set_cons_succ]
                                refine wpAnyP_take (i := 1) (oi := _) (v := _) rfl (by as_aux_lemma => kernel_rfl) (by as_aux_lemma => kernel_rfl) (by as_aux_lemma => kernel_rfl) (by decide) (by as_aux_lemma => kernel_rfl) (by rfl) (fun _ _ _ h => h) (yieldsIf_load_mid (by rfl) 56 (.tmp 13) rfl gQ 0 rfl [.int .i64 4, .int .i64 ((m : Int) + 1), .int .i64 1, .int .i64 ea, .int .i64 eb, .int .i64 0, .int .i64 0] _ (fun w' h => blk_range h.2 _ rfl) Tryz.underlying56 rfl (by as_aux_lemma => kernel_rfl)) hS ?_
                                change wpAnyP _ _ _ _ _ _ _ _ (Act.put _ (some 89) _) _
                                simp only [Act.put, List.setIfInBounds_toArray, List.set_cons_zero, List.set_cons_succ]
                                refine wpAnyP_take0 (i := 2) (oi := _) (v := ?_) rfl (by as_aux_lemma => kernel_rfl) (by as_aux_lemma => kernel_rfl) (by as_aux_lemma => kernel_rfl) (by decide) (fun _ _ _ h => h) (Or.inl ⟨by rfl, ?_⟩) hS ?_
                                rotate_left 1
                                · intro w hSw; clear hSw; (go_simp <;> with_reducible rfl)
                                change wpAnyP _ _ _ _ _ _ _ _ (Act.put _ (some 90) _) _
                                simp only [Act.put, List.setIfInBounds_toArray, List.set_cons_zero, List.set_cons_succ]
                                refine wpAnyP_one (i := 3) (o := _) (by as_aux_lemma => kernel_rfl) rfl (fun K hK => ?_)
                                go_simp
                                go_at_call 6
                                refine (below_dc p 50 u0 HU0.out.d (by omega)).mono ?_
                                rintro e u1 ⟨now, rfl, ⟨now0, now1⟩, DD, WW⟩
                                have HU1 := Lib.hid (HU0.out.dice WW DD)
                                clear DD WW
                                have hti : inB now 0 1000000 = true := by unfold inB; simp; omega
                                replace hS := ((⟨HU1.out.k7, HU1.out.ok.1.2⟩ : (Blk u1 g7 51 #[.slice KA3 22 cA3, .slice WA3 k3 dA3, .slice KB3 22 cB3, .slice WB3 k3 dB3, .int .i64 0, .int .i64 0, .int .i64 0, .slice H3 0 hc3, .int .i64 0, .int .i64 0, .int .i64 0, .slice X3 0 xc3, .bool false, .int .i64 0, .int .i64 0, .slice L3 n3 lc3, .slice S3 ns3 sc3, .int .i64 (D3 : Nat), .slice O3 no3 oc3]) ∧ (Blk u1 gQ 56 #[.int .i64 4, .int .i64 ((m : Int) + 1), .int .i64 1, .int .i64 ea, .int .i64 eb, .int .i64 0, .int .i64 0])))
                                refine hK.out _ _ (Or.inr hS) ?_
                                clear hK K
                                try change wpAnyP _ _ _ _ _ _ _ _ (Act.put _ (some 91) _) _
                                try simp only [Act.put, List.setIfInBounds_toArray, List.set_cons_zero, List.set_cons_succ]
                                refine wpAnyP_one (i := 4) (o := _) (by as_aux_lemma => kernel_rfl) rfl (fun K hK => ?_)
                                go_simp
                                go_at_call 11
                                have hcc := ask_done KA3 cA3 WA3 dA3 KB3 cB3 WB3 dB3 H3 hc3 X3 xc3 L3 lc3 S3 sc3 O3 oc3 k3 n3 ns3 no3 D3 es3 z3 ea eb now ((m : Int) + 1) (by have := HF3.out.2.2.1.1; omega) u1 HU1.out.ok.1.1.2.2 HLT.out HASK.out.1 hti
                                refine hcc.mono ?_
                                clear hcc
                                rintro e u2 ⟨KA4, cA4, WA4, dA4, KB4, cB4, WB4, dB4, H4, hc4, X4, xc4, L4, lc4, S4, sc4, O4, oc4, gA, rfl, hO, bb⟩
                                have HU2 := Lib.hid (HU1.out.add bb (Nat.le_refl _) hO)
                                clear bb hO
                                replace hS := ((⟨HU2.out.k7, HU2.out.ok.1.1.2⟩ : (Blk u2 g7 51 #[.slice KA3 22 cA3, .slice WA3 k3 dA3, .slice KB3 22 cB3, .slice WB3 k3 dB3, .int .i64 0, .int .i64 0, .int .i64 0, .slice H3 0 hc3, .int .i64 0, .int .i64 0, .int .i64 0, .slice X3 0 xc3, .bool false, .int .i64 0, .int .i64 0, .slice L3 n3 lc3, .slice S3 ns3 sc3, .int .i64 (D3 : Nat), .slice O3 no3 oc3]) ∧ (Blk u2 gQ 56 #[.int .i64 4, .int .i64 ((m : Int) + 1), .int .i64 1, .int .i64 ea, .int .i64 eb, .int .i64 0, .int .i64 0])))
                                refine hK.out _ _ (Or.inr hS) ?_
                                clear hK K
                                try change wpAnyP _ _ _ _ _ _ _ _ (Act.put _ (some 92) _) _
                                try simp only [Act.put, List.setIfInBounds_toArray, List.set_cons_zero, List.set_cons_succ]
                                refine wpAnyP_take0 (i := 5) (oi := _) (v := ?_) rfl (by as_aux_lemma => kernel_rfl) (by as_aux_lemma => kernel_rfl) (by as_aux_lemma => kernel_rfl) (by decide) (fun _ _ _ h => h) (Or.inl ⟨by rfl, ?_⟩) hS ?_
                                rotate_left 1
                                · intro w hSw; clear hSw; (go_simp <;> with_reducible rfl)
                                change wpAnyP _ _ _ _ _ _ _ _ (Act.put _ (some 87) _) _
                                simp only [Act.put, List.setIfInBounds_toArray, List.set_cons_zero, List.set_cons_succ]
                                refine wpAnyP_take0 (i := 6) (oi := _) (v := ?_) rfl (by as_aux_lemma => kernel_rfl) (by as_aux_lemma => kernel_rfl) (by as_aux_lemma => kernel_rfl) (by decide) (fun _ _ _ h => h) (Or.inl ⟨by rfl, ?_⟩) hS ?_
                                rotate_left 1
                                · intro w hSw; clear hSw; (go_simp <;> with_reducible rfl)
                                change wpAnyP _ _ _ _ _ _ _ _ (Act.put _ (some 93) _) _
                                simp only [Act.put, List.setIfInBounds_toArray, List.set_cons_zero, List.set_cons_succ]
                                refine wpAnyP_take0 (i := 7) (oi := _) (v := ?_) rfl (by as_aux_lemma => kernel_rfl) (by as_aux_lemma => kernel_rfl) (by as_aux_lemma => kernel_rfl) (by decide) (fun _ _ _ h => h) (Or.inl ⟨by rfl, ?_⟩) hS ?_
                                rotate_left 1
                                · intro w hSw; clear hSw; (go_simp <;> with_reducible rfl)
                                change wpAnyP _ _ _ _ _ _ _ _ (Act.put _ (some 94) _) _
                                simp only [Act.put, List.setIfInBounds_toArray, List.set_cons_zero, List.set_cons_succ]
                                refine wpAnyP_one (i := 8) (o := _) (by as_aux_lemma => kernel_rfl) rfl (fun K hK => ?_)
                                rw [if_pos (by rfl)]
                                refine wp_store_row 51 (.tmp 7) (.tmp 93) rfl g7 #[.slice KA4 22 cA4, .slice WA4 0 dA4, .slice KB4 22 cB4, .slice WB4 0 dB4, .int .i64 0, .int .i64 0, .int .i64 0, .slice H4 0 hc4, .int .i64 0, .int .i64 0, .int .i64 0, .slice X4 0 xc4, .bool false, .int .i64 0, .int .i64 0, .slice L4 n3 lc4, .slice S4 ns3 sc4, .int .i64 (n3 : Nat), .slice O4 no3 oc4] rfl rfl 51 #[.slice KA3 22 cA3, .slice WA3 k3 dA3, .slice KB3 22 cB3, .slice WB3 k3 dB3, .int .i64 0, .int .i64 0, .int .i64 0, .slice H3 0 hc3, .int .i64 0, .int .i64 0, .int .i64 0, .slice X3 0 xc3, .bool false, .int .i64 0, .int .i64 0, .slice L3 n3 lc3, .slice S3 ns3 sc3, .int .i64 (D3 : Nat), .slice O3 no3 oc3] HU2.out.k7 (by as_aux_lemma => kernel_rfl) rfl (by simp [Value.oneCell']) ?_
                                refine hK.out _ _ (Or.inl rfl) ?_
                                clear hK K
                                try change wpAnyP _ _ _ _ _ _ _ _ (Act.put _ none _) _
                                try simp only [Act.put, List.setIfInBounds_toArray, List.set_cons_zero, List.set_cons_succ]
                                refine wpAnyP_done (by as_aux_lemma => kernel_rfl) ?_ _
                                go_wp2_with fail
                                go_roundg 0
                                case measure => omega
                                case rel =>
                                  refine .inr ⟨rfl, by go_num, ?_⟩
                                  unfold RL3
                                  obtain ⟨hq3, hb3, ⟨hn3, hX3⟩, hA3⟩ := HF3.out
                                  have hlt3 := HLT.out
                                  exact ⟨Aa, q3, ca3, 0, n3, ns3, no3, n3, es3, z3, rfl, (by rcases hq3 with h | h; exact .inl ⟨h.1, h.2.1, .inl rfl⟩; exact .inr ⟨h.1, h.2.1, rfl, h.2.2.2⟩), ⟨by omega, by omega, by omega, by omega⟩, fun _ => ⟨hn3, by omega⟩, hA3, HE3, Lib.hid ⟨A3c, c3c, B3c, d3c, KA4, cA4, WA4, dA4, KB4, cB4, WB4, dB4, H4, hc4, X4, xc4, L4, lc4, S4, sc4, O4, oc4, (HU2.out.put7 _).map (fun x h => ⟨h.1.1.1.1, h.1.1.1.2.1, h.2.1⟩)⟩, Lib.hid ((HU2.out.put7 _).f.map (fun x h => h.1.2))⟩
                        · go_wp2_with fail
                          obtain ⟨hq3, hb3, ⟨hn3, hX3⟩, hA3⟩ := HF3.out
                          go_roundg 0
                          case measure => omega
                          case rel =>
                            refine .inr ⟨rfl, by go_num, ?_⟩
                            unfold RL3
                            exact ⟨Aa, q3, ca3, k3, n3, ns3, no3, D3, es3, z3, rfl, hq3, hb3, fun _ => ⟨hn3, hX3⟩, hA3, HE3, Lib.hid ⟨A3c, c3c, B3c, d3c, KA3, cA3, WA3, dA3, KB3, cB3, WB3, dB3, H3, hc3, X3, xc3, L3, lc3, S3, sc3, O3, oc3, HX6.out.map (fun x h => h.1.1)⟩, Lib.hid (HX6.out.f.map (fun x h => h.2))⟩
                · unfold RL3 at H3
                  obtain ⟨Aa, q3, ca3, k3, n3, ns3, no3, D3, es3, z3, rfl, hq3, hb3, hX3, hA3, HE3, HL3, HAa⟩ := H3
                  have HF3 := Lib.hid (And.intro hq3 (And.intro hb3 (And.intro (hX3 trivial) hA3)))
                  have hq2 : q = 0 ∨ q = 1 := by
                    rcases hq with h | h
                    · exact .inl h.1
                    · exact .inr h.1
                  clear hq hq3 hb3 hX3 hA3
                  rcases hq2 with rfl | rfl
                  all_goals
                    go_wp2_with fail
                    go_meet
                    unfold RL3
                    exact ⟨Aa, q3, ca3, k3, n3, ns3, no3, D3, es3, z3, rfl, HF3.out.1, HF3.out.2.1, fun _ => HF3.out.2.2.1, HF3.out.2.2.2, HE3, HL3, HAa⟩
            case rest =>
              rename World => v9
              have H9 := Lib.hid hcut
              clear hcut HX1
              have h9 := H9.out
              unfold RL3 at h9
              obtain ⟨Aa, q3, ca3, k3, n3, ns3, no3, D3, es3, z3, rfl, hq3, hb3, hX3, hA3, HE3, HL3, HAa⟩ := h9
              obtain ⟨A3c, c3c, B3c, d3c, KA3, cA3, WA3, dA3, KB3, cB3, WB3, dB3, H3, hc3, X3, xc3, L3, lc3, S3, sc3, O3, oc3, HX5⟩ := HL3.out
              have HX5 := Lib.hid (HX5.plus HAa.out)
              have HF3 := Lib.hid (And.intro hq3 (And.intro hb3 (And.intro hX3 hA3)))
              clear H9 HL3 HAa hq3 hb3 hX3 hA3 hq HAB
              apply_assumption
              refine wp_seq_k (fun _ _ => ?_)
              go_cut [10] from 44 to 145 (fun av wx => RL3 av wx w (cb = true ∧ m < n) p g6 g7 A n wl m)
              case first =>
                cases cb with
                | true =>
                  go_wp2_with fail
                  go_meet
                  unfold RL3
                  obtain ⟨hq3, hb3, hX3, hA3⟩ := HF3.out
                  exact ⟨Aa, q3, ca3, k3, n3, ns3, no3, D3, es3, z3, rfl, hq3, hb3, hX3, hA3, HE3, Lib.hid ⟨A3c, c3c, B3c, d3c, KA3, cA3, WA3, dA3, KB3, cB3, WB3, dB3, H3, hc3, X3, xc3, L3, lc3, S3, sc3, O3, oc3, HX5.out.map (fun x h => h.1)⟩, Lib.hid (HX5.out.f.map (fun x h => h.2))⟩
                | false =>
                  go_wp2_with fail
                  refine (below_dc p 4 _ HX5.out.d (by omega)).mono ?_
                  rintro e v6 ⟨y, rfl, ⟨y0, y1⟩, DD, WW⟩
                  have HX6 := Lib.hid (HX5.out.dice WW DD)
                  clear HX5 DD WW
                  by_cases hy : y = 0
                  · as_aux_lemma =>
                      subst hy
                      go_upto_region 25 with fail
                      refine wp_region_any (by as_aux_lemma => kernel_rfl) ?_
                      change wpAny _ _ _ _ _ _ _ (World.drew _)
                      obtain ⟨u0, hu0⟩ : ∃ x : World, x = v6.drew := ⟨_, rfl⟩
                      rw [← hu0]
                      have HU0 := HX6.out.drew
                      rw [← hu0] at HU0
                      have HU0 := Lib.hid HU0
                      clear hu0 HX6
                      refine wpAny_take (i := 1) (oi := _) (v := ?_) rfl (by as_aux_lemma => kernel_rfl) (by as_aux_lemma => kernel_rfl) (by as_aux_lemma => kernel_rfl) (fun _ _ _ h => h) (Or.inl ⟨by rfl, ?_⟩) ?_
                      rotate_left 1
                      · intro w; (go_simp <;> with_reducible rfl)
                      change wpAny _ _ _ _ _ _ (Act.put _ (some 104) _) _
                      simp only [Act.put, List.setIfInBounds_toArray, List.set_cons_zero, List.set_cons_succ]
                      refine wpAny_ready (rs := [0, 2]) (by as_aux_lemma => kernel_rfl) (by simp) ?_
                      refine AllReady.cons rfl (fun K hK => ?_) ?_
                      · skip
                        rw [if_pos (by rfl)]
                        refine wp_load_row 51 (.tmp 7) rfl g7 rfl 51 #[.slice KA3 22 cA3, .slice WA3 k3 dA3, .slice KB3 22 cB3, .slice WB3 k3 dB3, .int .i64 0, .int .i64 0, .int .i64 0, .slice H3 0 hc3, .int .i64 0, .int .i64 0, .int .i64 0, .slice X3 0 xc3, .bool false, .int .i64 0, .int .i64 0, .slice L3 n3 lc3, .slice S3 ns3 sc3, .int .i64 (D3 : Nat), .slice O3 no3 oc3] (0, 0) _ HU0.out.k7 Tryz.underlying51 rfl (by as_aux_lemma => kernel_rfl) ?_
                        refine hK _ _ ?_
                        clear hK K
                        try change wpAny _ _ _ _ _ _ (Act.put _ (some 103) _) _
                        try simp only [Act.put, List.setIfInBounds_toArray, List.set_cons_zero, List.set_cons_succ]
                        refine wpAny_ready (rs := [2]) (by as_aux_lemma => kernel_rfl) (by simp) ?_
                        refine AllReady.cons rfl (fun K hK => ?_) ?_
                        · skip
                          go_simp
                          go_at_call 14
                          refine (w9Fates_any p u0 HU0.out.d).mono ?_
                          rintro e u1 ⟨F, cf, zs, rfl, RF, DD, WW⟩
                          have HU1 := Lib.hid (HU0.out.dice WW DD)
                          have HRF := Lib.hid RF
                          clear DD WW RF
                          refine hK _ _ ?_
                          clear hK K
                          try change wpAny _ _ _ _ _ _ (Act.put _ (some 105) _) _
                          try simp only [Act.put, List.setIfInBounds_toArray, List.set_cons_zero, List.set_cons_succ]
                          refine wpAny_ready (rs := [3]) (by as_aux_lemma => kernel_rfl) (by simp) ?_
                          refine AllReady.cons rfl (fun K hK => ?_) ?_
                          · skip
                            go_simp
                            go_at_call 13
                            refine (fallenLog_yes KA3 cA3 WA3 dA3 KB3 cB3 WB3 dB3 H3 hc3 X3 xc3 L3 lc3 S3 sc3 O3 oc3 k3 n3 ns3 no3 D3 es3 z3 F cf zs u1 HU1.out.ok.1.2.2 (Row.sl HRF.out)).mono ?_
                            rintro e u2 ⟨KA4, cA4, WA4, dA4, KB4, cB4, WB4, dB4, ra, rb, fs, rfl, hO, hfs, hFP, bb⟩
                            have HU2 := Lib.hid (HU1.out.add bb (Nat.le_refl _) hO)
                            clear bb hO
                            refine hK _ _ ?_
                            clear hK K
                            try change wpAny _ _ _ _ _ _ (Act.put _ (some 106) _) _
                            try simp only [Act.put, List.setIfInBounds_toArray, List.set_cons_zero, List.set_cons_succ]
                            refine wpAny_ready (rs := [4]) (by as_aux_lemma => kernel_rfl) (by simp) ?_
                            refine AllReady.cons rfl (fun K hK => ?_) ?_
                            · skip
                              go_simp
                              go_at_call 12
                              refine (risenLog_yes KA4 cA4 WA4 dA4 KB4 cB4 WB4 dB4 ra rb z3 fs u2 HU2.out.ok.2.1 HU2.out.ok.2.2 hFP).mono ?_
                              rintro e u3 ⟨KA5, cA5, WA5, dA5, KB5, cB5, WB5, dB5, H5, hc5, X5, xc5, L5, lc5, S5, sc5, O5, oc5, m5, n5, ns5, no5, rfl, hO, bb⟩
                              have HU3 := Lib.hid (HU2.out.add bb (Nat.le_refl _) hO)
                              clear bb hO
                              refine hK _ _ ?_
                              clear hK K
                              try change wpAny _ _ _ _ _ _ (Act.put _ (some 107) _) _
                              try simp only [Act.put, List.setIfInBounds_toArray, List.set_cons_zero, List.set_cons_succ]
                              refine wpAny_take (i := 5) (oi := _) (v := ?_) rfl (by as_aux_lemma => kernel_rfl) (by as_aux_lemma => kernel_rfl) (by as_aux_lemma => kernel_rfl) (fun _ _ _ h => h) (Or.inl ⟨by rfl, ?_⟩) ?_
                              rotate_left 1
                              · intro w; (go_simp <;> with_reducible rfl)
                              change wpAny _ _ _ _ _ _ (Act.put _ (some 102) _) _
                              simp only [Act.put, List.setIfInBounds_toArray, List.set_cons_zero, List.set_cons_succ]
                              refine wpAny_take (i := 6) (oi := _) (v := ?_) rfl (by as_aux_lemma => kernel_rfl) (by as_aux_lemma => kernel_rfl) (by as_aux_lemma => kernel_rfl) (fun _ _ _ h => h) (Or.inl ⟨by rfl, ?_⟩) ?_
                              rotate_left 1
                              · intro w; (go_simp <;> with_reducible rfl)
                              change wpAny _ _ _ _ _ _ (Act.put _ (some 108) _) _
                              simp only [Act.put, List.setIfInBounds_toArray, List.set_cons_zero, List.set_cons_succ]
                              refine wpAny_take (i := 7) (oi := _) (v := ?_) rfl (by as_aux_lemma => kernel_rfl) (by as_aux_lemma => kernel_rfl) (by as_aux_lemma => kernel_rfl) (fun _ _ _ h => h) (Or.inl ⟨by rfl, ?_⟩) ?_
                              rotate_left 1
                              · intro w; (go_simp <;> with_reducible rfl)
                              change wpAny _ _ _ _ _ _ (Act.put _ (some 109) _) _
                              simp only [Act.put, List.setIfInBounds_toArray, List.set_cons_zero, List.set_cons_succ]
                              refine wpAny_ready (rs := [8]) (by as_aux_lemma => kernel_rfl) (by simp) ?_
                              refine AllReady.cons rfl (fun K hK => ?_) ?_
                              · skip
                                rw [if_pos (by rfl)]
                                refine wp_store_row 51 (.tmp 7) (.tmp 108) rfl g7 #[.slice KA5 22 cA5, .slice WA5 m5 dA5, .slice KB5 22 cB5, .slice WB5 m5 dB5, .int .i64 0, .int .i64 0, .int .i64 0, .slice H5 0 hc5, .int .i64 0, .int .i64 0, .int .i64 0, .slice X5 0 xc5, .bool false, .int .i64 0, .int .i64 0, .slice L5 n5 lc5, .slice S5 ns5 sc5, .int .i64 (fs.length : Nat), .slice O5 no5 oc5] rfl rfl 51 #[.slice KA3 22 cA3, .slice WA3 k3 dA3, .slice KB3 22 cB3, .slice WB3 k3 dB3, .int .i64 0, .int .i64 0, .int .i64 0, .slice H3 0 hc3, .int .i64 0, .int .i64 0, .int .i64 0, .slice X3 0 xc3, .bool false, .int .i64 0, .int .i64 0, .slice L3 n3 lc3, .slice S3 ns3 sc3, .int .i64 (D3 : Nat), .slice O3 no3 oc3] HU3.out.k7 (by as_aux_lemma => kernel_rfl) rfl (by simp [Value.oneCell']) ?_
                                refine hK _ _ ?_
                                clear hK K
                                try change wpAny _ _ _ _ _ _ (Act.put _ none _) _
                                try simp only [Act.put, List.setIfInBounds_toArray, List.set_cons_zero, List.set_cons_succ]
                                refine wpAny_done (by as_aux_lemma => kernel_rfl) ?_ _
                                go_wp2_with fail
                                go_meet
                                unfold RL3
                                have hg := HU3.out.ok.2
                                have hn5 := hg.hn
                                have hn3e := HU3.out.ok.1.1.1.2.2.hn
                                obtain ⟨hq3, hb3, hX3, hA3⟩ := HF3.out
                                have hfl : fs.length = n3 ∨ fs.length = D3 := by
                                  rcases hfs with h | h
                                  · left; rw [h, hn3e]
                                  · right; rw [h, List.length_take]; omega
                                exact ⟨_, 0, 0, m5, n5, ns5, no5, fs.length, fs, [7], rfl, .inl ⟨rfl, rfl, .inl hn5⟩, ⟨by omega, by omega, by omega, by omega⟩, fun h => (by cases h.1), fun h => (by cases h), Lib.hid (by rcases hfs with h | h; rw [h]; exact HE3.out; rw [h]; exact HE3.out.take D3),
                                  Lib.hid ⟨A3c, c3c, B3c, d3c, KA5, cA5, WA5, dA5, KB5, cB5, WB5, dB5, H5, hc5, X5, xc5, L5, lc5, S5, sc5, O5, oc5, ((HU3.out.put7 _).alloc _).map (fun x h => ⟨h.1.1.1.1, h.1.1.1.2.1, h.2⟩)⟩, Lib.hid (fun v _ => Sl.nil _ _ _)⟩
                              exact AllReady.nil
                            exact AllReady.nil
                          exact AllReady.nil
                        exact AllReady.nil
                      refine AllReady.cons rfl (fun K hK => ?_) ?_
                      · skip
                        go_simp
                        go_at_call 14
                        refine (w9Fates_any p u0 HU0.out.d).mono ?_
                        rintro e u1 ⟨F, cf, zs, rfl, RF, DD, WW⟩
                        have HU1 := Lib.hid (HU0.out.dice WW DD)
                        have HRF := Lib.hid RF
                        clear DD WW RF
                        refine hK _ _ ?_
                        clear hK K
                        try change wpAny _ _ _ _ _ _ (Act.put _ (some 105) _) _
                        try simp only [Act.put, List.setIfInBounds_toArray, List.set_cons_zero, List.set_cons_succ]
                        refine wpAny_ready (rs := [0]) (by as_aux_lemma => kernel_rfl) (by simp) ?_
                        refine AllReady.cons rfl (fun K hK => ?_) ?_
                        · skip
                          rw [if_pos (by rfl)]
                          refine wp_load_row 51 (.tmp 7) rfl g7 rfl 51 #[.slice KA3 22 cA3, .slice WA3 k3 dA3, .slice KB3 22 cB3, .slice WB3 k3 dB3, .int .i64 0, .int .i64 0, .int .i64 0, .slice H3 0 hc3, .int .i64 0, .int .i64 0, .int .i64 0, .slice X3 0 xc3, .bool false, .int .i64 0, .int .i64 0, .slice L3 n3 lc3, .slice S3 ns3 sc3, .int .i64 (D3 : Nat), .slice O3 no3 oc3] (0, 0) _ HU1.out.k7 Tryz.underlying51 rfl (by as_aux_lemma => kernel_rfl) ?_
                          refine hK _ _ ?_
                          clear hK K
                          try change wpAny _ _ _ _ _ _ (Act.put _ (some 103) _) _
                          try simp only [Act.put, List.setIfInBounds_toArray, List.set_cons_zero, List.set_cons_succ]
                          refine wpAny_ready (rs := [3]) (by as_aux_lemma => kernel_rfl) (by simp) ?_
                          refine AllReady.cons rfl (fun K hK => ?_) ?_
                          · skip
                            go_simp
                            go_at_call 13
                            refine (fallenLog_yes KA3 cA3 WA3 dA3 KB3 cB3 WB3 dB3 H3 hc3 X3 xc3 L3 lc3 S3 sc3 O3 oc3 k3 n3 ns3 no3 D3 es3 z3 F cf zs u1 HU1.out.ok.1.2.2 (Row.sl HRF.out)).mono ?_
                            rintro e u2 ⟨KA4, cA4, WA4, dA4, KB4, cB4, WB4, dB4, ra, rb, fs, rfl, hO, hfs, hFP, bb⟩
                            have HU2 := Lib.hid (HU1.out.add bb (Nat.le_refl _) hO)
                            clear bb hO
                            refine hK _ _ ?_
                            clear hK K
                            try change wpAny _ _ _ _ _ _ (Act.put _ (some 106) _) _
                            try simp only [Act.put, List.setIfInBounds_toArray, List.set_cons_zero, List.set_cons_succ]
                            refine wpAny_ready (rs := [4]) (by as_aux_lemma => kernel_rfl) (by simp) ?_
                            refine AllReady.cons rfl (fun K hK => ?_) ?_
                            · skip
                              go_simp
                              go_at_call 12
                              refine (risenLog_yes KA4 cA4 WA4 dA4 KB4 cB4 WB4 dB4 ra rb z3 fs u2 HU2.out.ok.2.1 HU2.out.ok.2.2 hFP).mono ?_
                              rintro e u3 ⟨KA5, cA5, WA5, dA5, KB5, cB5, WB5, dB5, H5, hc5, X5, xc5, L5, lc5, S5, sc5, O5, oc5, m5, n5, ns5, no5, rfl, hO, bb⟩
                              have HU3 := Lib.hid (HU2.out.add bb (Nat.le_refl _) hO)
                              clear bb hO
                              refine hK _ _ ?_
                              clear hK K
                              try change wpAny _ _ _ _ _ _ (Act.put _ (some 107) _) _
                              try simp only [Act.put, List.setIfInBounds_toArray, List.set_cons_zero, List.set_cons_succ]
                              refine wpAny_take (i := 5) (oi := _) (v := ?_) rfl (by as_aux_lemma => kernel_rfl) (by as_aux_lemma => kernel_rfl) (by as_aux_lemma => kernel_rfl) (fun _ _ _ h => h) (Or.inl ⟨by rfl, ?_⟩) ?_
                              rotate_left 1
                              · intro w; (go_simp <;> with_reducible rfl)
                              change wpAny _ _ _ _ _ _ (Act.put _ (some 102) _) _
                              simp only [Act.put, List.setIfInBounds_toArray, List.set_cons_zero, List.set_cons_succ]
                              refine wpAny_take (i := 6) (oi := _) (v := ?_) rfl (by as_aux_lemma => kernel_rfl) (by as_aux_lemma => kernel_rfl) (by as_aux_lemma => kernel_rfl) (fun _ _ _ h => h) (Or.inl ⟨by rfl, ?_⟩) ?_
                              rotate_left 1
                              · intro w; (go_simp <;> with_reducible rfl)
                              change wpAny _ _ _ _ _ _ (Act.put _ (some 108) _) _
                              simp only [Act.put, List.setIfInBounds_toArray, List.set_cons_zero, List.set_cons_succ]
                              refine wpAny_take (i := 7) (oi := _) (v := ?_) rfl (by as_aux_lemma => kernel_rfl) (by as_aux_lemma => kernel_rfl) (by as_aux_lemma => kernel_rfl) (fun _ _ _ h => h) (Or.inl ⟨by rfl, ?_⟩) ?_
                              rotate_left 1
                              · intro w; (go_simp <;> with_reducible rfl)
                              change wpAny _ _ _ _ _ _ (Act.put _ (some 109) _) _
                              simp only [Act.put, List.setIfInBounds_toArray, List.set_cons_zero, List.set_cons_succ]
                              refine wpAny_ready (rs := [8]) (by as_aux_lemma => kernel_rfl) (by simp) ?_
                              refine AllReady.cons rfl (fun K hK => ?_) ?_
                              · skip
                                rw [if_pos (by rfl)]
                                refine wp_store_row 51 (.tmp 7) (.tmp 108) rfl g7 #[.slice KA5 22 cA5, .slice WA5 m5 dA5, .slice KB5 22 cB5, .slice WB5 m5 dB5, .int .i64 0, .int .i64 0, .int .i64 0, .slice H5 0 hc5, .int .i64 0, .int .i64 0, .int .i64 0, .slice X5 0 xc5, .bool false, .int .i64 0, .int .i64 0, .slice L5 n5 lc5, .slice S5 ns5 sc5, .int .i64 (fs.length : Nat), .slice O5 no5 oc5] rfl rfl 51 #[.slice KA3 22 cA3, .slice WA3 k3 dA3, .slice KB3 22 cB3, .slice WB3 k3 dB3, .int .i64 0, .int .i64 0, .int .i64 0, .slice H3 0 hc3, .int .i64 0, .int .i64 0, .int .i64 0, .slice X3 0 xc3, .bool false, .int .i64 0, .int .i64 0, .slice L3 n3 lc3, .slice S3 ns3 sc3, .int .i64 (D3 : Nat), .slice O3 no3 oc3] HU3.out.k7 (by as_aux_lemma => kernel_rfl) rfl (by simp [Value.oneCell']) ?_
                                refine hK _ _ ?_
                                clear hK K
                                try change wpAny _ _ _ _ _ _ (Act.put _ none _) _
                                try simp only [Act.put, List.setIfInBounds_toArray, List.set_cons_zero, List.set_cons_succ]
                                refine wpAny_done (by as_aux_lemma => kernel_rfl) ?_ _
                                go_wp2_with fail
                                go_meet
                                unfold RL3
                                have hg := HU3.out.ok.2
                                have hn5 := hg.hn
                                have hn3e := HU3.out.ok.1.1.1.2.2.hn
                                obtain ⟨hq3, hb3, hX3, hA3⟩ := HF3.out
                                have hfl : fs.length = n3 ∨ fs.length = D3 := by
                                  rcases hfs with h | h
                                  · left; rw [h, hn3e]
                                  · right; rw [h, List.length_take]; omega
                                exact ⟨_, 0, 0, m5, n5, ns5, no5, fs.length, fs, [7], rfl, .inl ⟨rfl, rfl, .inl hn5⟩, ⟨by omega, by omega, by omega, by omega⟩, fun h => (by cases h.1), fun h => (by cases h), Lib.hid (by rcases hfs with h | h; rw [h]; exact HE3.out; rw [h]; exact HE3.out.take D3),
                                  Lib.hid ⟨A3c, c3c, B3c, d3c, KA5, cA5, WA5, dA5, KB5, cB5, WB5, dB5, H5, hc5, X5, xc5, L5, lc5, S5, sc5, O5, oc5, ((HU3.out.put7 _).alloc _).map (fun x h => ⟨h.1.1.1.1, h.1.1.1.2.1, h.2⟩)⟩, Lib.hid (fun v _ => Sl.nil _ _ _)⟩
                              exact AllReady.nil
                            exact AllReady.nil
                          exact AllReady.nil
                        exact AllReady.nil
                      exact AllReady.nil
                  · go_wp2_with fail
                    go_meet
                    unfold RL3
                    obtain ⟨hq3, hb3, hX3, hA3⟩ := HF3.out
                    exact ⟨Aa, q3, ca3, k3, n3, ns3, no3, D3, es3, z3, rfl, hq3, hb3, hX3, hA3, HE3, Lib.hid ⟨A3c, c3c, B3c, d3c, KA3, cA3, WA3, dA3, KB3, cB3, WB3, dB3, H3, hc3, X3, xc3, L3, lc3, S3, sc3, O3, oc3, HX6.out.map (fun x h => h.1)⟩, Lib.hid (HX6.out.f.map (fun x h => h.2))⟩
              case rest =>
                rename World => v10
                have H10 := Lib.hid hcut
                clear hcut HX5 HF3 HE3
                have h10 := H10.out
                unfold RL3 at h10
                obtain ⟨Ab, q4, ca4, k5, n5, ns5, no5, D5, es5, z5, rfl, hq5, hb5, hX5, hA5, HE5, HL5, HAb⟩ := h10
                obtain ⟨A5c, c5c, B5c, d5c, KA5, cA5, WA5, dA5, KB5, cB5, WB5, dB5, H5, hc5, X5, xc5, L5, lc5, S5, sc5, O5, oc5, HX5⟩ := HL5.out
                have HX11 := Lib.hid (HX5.plus HAb.out)
                have hn5 := HX5.ok.2.2.hn
                have hno5 := HX5.ok.2.2.ho
                have HF5 := Lib.hid (And.intro hq5 (And.intro hb5 (And.intro hX5 (And.intro hA5 (And.intro hn5 hno5)))))
                clear H10 HL5 HAb HX5 hq5 hb5 hX5 hA5 hn5 hno5
                apply_assumption
                go_wp2_with (show wpList _ _ _ (Oper.mk _ (Op.load 51 _) _ _ _ _ :: _) _ _; refine wpList_load_row rfl 51 _ rfl g7 rfl 51 #[.slice KA5 22 cA5, .slice WA5 k5 dA5, .slice KB5 22 cB5, .slice WB5 k5 dB5, .int .i64 0, .int .i64 0, .int .i64 0, .slice H5 0 hc5, .int .i64 0, .int .i64 0, .int .i64 0, .slice X5 0 xc5, .bool false, .int .i64 0, .int .i64 0, .slice L5 n5 lc5, .slice S5 ns5 sc5, .int .i64 (D5 : Nat), .slice O5 no5 oc5] (0, 0) _ HX11.out.k7 Tryz.underlying51 rfl (by as_aux_lemma => kernel_rfl) ?_)
                refine (syncedLog_yes KA5 cA5 WA5 dA5 KB5 cB5 WB5 dB5 H5 hc5 X5 xc5 L5 lc5 S5 sc5 O5 oc5 k5 n5 ns5 no5 D5 es5 z5 v10 HX11.out.ok.1.2.2).mono ?_
                rintro e v11 ⟨KA6, cA6, WA6, dA6, KB6, cB6, WB6, dB6, H6, hc6, X6, xc6, L6, lc6, S6, sc6, O6, oc6, Oo, po, rfl, hO, b11⟩
                have HX12 := Lib.hid (HX11.out.add b11 (Nat.le_refl _) hO)
                clear HX11 b11 hO
                go_upto_region 28 with (show wpList _ _ _ (Oper.mk _ (Op.store 51 _ _) _ _ _ _ :: _) _ _; refine wpList_store_new rfl 51 _ _ rfl _ #[.slice KA6 22 cA6, .slice WA6 0 dA6, .slice KB6 22 cB6, .slice WB6 0 dB6, .int .i64 0, .int .i64 0, .int .i64 0, .slice H6 0 hc6, .int .i64 0, .int .i64 0, .int .i64 0, .slice X6 0 xc6, .bool false, .int .i64 0, .int .i64 0, .slice L6 n5 lc6, .slice S6 ns5 sc6, .int .i64 (n5 : Nat), .slice O6 0 oc6] #[.slice none 0 0, .slice none 0 0, .slice none 0 0, .slice none 0 0, .int .i64 0, .int .i64 0, .int .i64 0, .slice none 0 0, .int .i64 0, .int .i64 0, .int .i64 0, .slice none 0 0, .bool false, .int .i64 0, .int .i64 0, .slice none 0 0, .slice none 0 0, .int .i64 0, .slice none 0 0] rfl rfl rfl (by as_aux_lemma => kernel_rfl) rfl (by simp [Value.oneCell']) rfl ?_)
                obtain ⟨v12, hv12⟩ : ∃ x : World, x = v11.alloc (.cells #[.slice KA6 22 cA6, .slice WA6 0 dA6, .slice KB6 22 cB6, .slice WB6 0 dB6, .int .i64 0, .int .i64 0, .int .i64 0, .slice H6 0 hc6, .int .i64 0, .int .i64 0, .int .i64 0, .slice X6 0 xc6, .bool false, .int .i64 0, .int .i64 0, .slice L6 n5 lc6, .slice S6 ns5 sc6, .int .i64 (n5 : Nat), .slice O6 0 oc6] 51) := ⟨_, rfl⟩
                rw [← hv12]
                obtain ⟨gY, hgY⟩ : ∃ q, q = v11.heap.size := ⟨_, rfl⟩
                have KY : Blk v12 gY 51 #[.slice KA6 22 cA6, .slice WA6 0 dA6, .slice KB6 22 cB6, .slice WB6 0 dB6, .int .i64 0, .int .i64 0, .int .i64 0, .slice H6 0 hc6, .int .i64 0, .int .i64 0, .int .i64 0, .slice X6 0 xc6, .bool false, .int .i64 0, .int .i64 0, .slice L6 n5 lc6, .slice S6 ns5 sc6, .int .i64 (n5 : Nat), .slice O6 0 oc6] := by rw [hv12, hgY]; exact Blk.new _ _ _
                try rw [← hgY]
                have HX13 := HX12.out.alloc (.cells #[.slice KA6 22 cA6, .slice WA6 0 dA6, .slice KB6 22 cB6, .slice WB6 0 dB6, .int .i64 0, .int .i64 0, .int .i64 0, .slice H6 0 hc6, .int .i64 0, .int .i64 0, .int .i64 0, .slice X6 0 xc6, .bool false, .int .i64 0, .int .i64 0, .slice L6 n5 lc6, .slice S6 ns5 sc6, .int .i64 (n5 : Nat), .slice O6 0 oc6] 51)
                rw [← hv12] at HX13
                have HX13 := Lib.hid HX13
                clear HX12 hv12 hgY
                go_upto_region 29 with (first | (show wpList _ _ _ (Oper.mk _ (Op.load 51 _) _ _ _ _ :: _) _ _; refine wpList_load_row rfl 51 _ rfl gY rfl 51 #[.slice KA6 22 cA6, .slice WA6 0 dA6, .slice KB6 22 cB6, .slice WB6 0 dB6, .int .i64 0, .int .i64 0, .int .i64 0, .slice H6 0 hc6, .int .i64 0, .int .i64 0, .int .i64 0, .slice X6 0 xc6, .bool false, .int .i64 0, .int .i64 0, .slice L6 n5 lc6, .slice S6 ns5 sc6, .int .i64 (n5 : Nat), .slice O6 0 oc6] (0, 0) _ KY Tryz.underlying51 rfl (by as_aux_lemma => kernel_rfl) ?_) | (show wpList _ _ _ (Oper.mk _ (Op.store 51 _ _) _ _ _ _ :: _) _ _; refine wpList_store_row rfl 51 _ _ rfl g7 #[.slice KA6 22 cA6, .slice WA6 0 dA6, .slice KB6 22 cB6, .slice WB6 0 dB6, .int .i64 0, .int .i64 0, .int .i64 0, .slice H6 0 hc6, .int .i64 0, .int .i64 0, .int .i64 0, .slice X6 0 xc6, .bool false, .int .i64 0, .int .i64 0, .slice L6 n5 lc6, .slice S6 ns5 sc6, .int .i64 (n5 : Nat), .slice O6 0 oc6] rfl rfl 51 #[.slice KA5 22 cA5, .slice WA5 k5 dA5, .slice KB5 22 cB5, .slice WB5 k5 dB5, .int .i64 0, .int .i64 0, .int .i64 0, .slice H5 0 hc5, .int .i64 0, .int .i64 0, .int .i64 0, .slice X5 0 xc5, .bool false, .int .i64 0, .int .i64 0, .slice L5 n5 lc5, .slice S5 ns5 sc5, .int .i64 (D5 : Nat), .slice O5 no5 oc5] HX13.out.k7 (by as_aux_lemma => kernel_rfl) rfl (by simp [Value.oneCell']) ?_))
                obtain ⟨v13, hv13⟩ : ∃ x : World, x = v12.setRow g7 #[.slice KA6 22 cA6, .slice WA6 0 dA6, .slice KB6 22 cB6, .slice WB6 0 dB6, .int .i64 0, .int .i64 0, .int .i64 0, .slice H6 0 hc6, .int .i64 0, .int .i64 0, .int .i64 0, .slice X6 0 xc6, .bool false, .int .i64 0, .int .i64 0, .slice L6 n5 lc6, .slice S6 ns5 sc6, .int .i64 (n5 : Nat), .slice O6 0 oc6] := ⟨_, rfl⟩
                rw [← hv13]
                have HX14 : Hid (LX w v13 p g6 g7 #[.int .i64 4, .slice A5c n c5c, .slice B5c m d5c, .int .i64 (m : Nat)] #[.slice KA6 22 cA6, .slice WA6 0 dA6, .slice KB6 22 cB6, .slice WB6 0 dB6, .int .i64 0, .int .i64 0, .int .i64 0, .slice H6 0 hc6, .int .i64 0, .int .i64 0, .int .i64 0, .slice X6 0 xc6, .bool false, .int .i64 0, .int .i64 0, .slice L6 n5 lc6, .slice S6 ns5 sc6, .int .i64 (n5 : Nat), .slice O6 0 oc6] (fun x => ((Sl x 7 A n (WT wl) ∧ (Sl x 7 A5c n (WT wl) ∧ Sl x 4 B5c m (GT (gotsL m))) ∧ LgW x KA6 WA6 KB6 WB6 L6 S6 O6 lc6 0 n5 ns5 0 es5 n5 z5) ∧ Sl x 4 Ab q4 (ackM q4 m)) ∧ Sl x 4 Oo no5 (oweL es5 D5))) := by
                  rw [hv13]
                  exact Lib.hid ((HX13.out.put7 #[.slice KA6 22 cA6, .slice WA6 0 dA6, .slice KB6 22 cB6, .slice WB6 0 dB6, .int .i64 0, .int .i64 0, .int .i64 0, .slice H6 0 hc6, .int .i64 0, .int .i64 0, .int .i64 0, .slice X6 0 xc6, .bool false, .int .i64 0, .int .i64 0, .slice L6 n5 lc6, .slice S6 ns5 sc6, .int .i64 (n5 : Nat), .slice O6 0 oc6]).map (fun x h => ⟨⟨⟨h.1.1.1, h.1.1.2.1, by have h2 := h.2.1; rw [← HF5.out.2.2.2.2.1] at h2; exact h2⟩, h.1.2⟩, h.2.2⟩))
                clear HX13 hv13 KY
                obtain ⟨iA, hiA, hzA, hsA, hyA⟩ := info_parts info_AckV
                simp only [Act.put, List.setIfInBounds_toArray, List.set_cons_zero, List.set_cons_succ]
                go_cut [10] from 44 to 145 (fun av wx => ∃ (Ac : Option Addr) (q5 ca5 : Nat), av = .slice Ac q5 ca5 ∧ (q5 = 0 ∨ (q5 = 1 ∧ n5 = m + 1)) ∧ (cb = true → m < n → q5 = 1) ∧ LX w wx p g6 g7 #[.int .i64 4, .slice A5c n c5c, .slice B5c m d5c, .int .i64 (m : Nat)] #[.slice KA6 22 cA6, .slice WA6 0 dA6, .slice KB6 22 cB6, .slice WB6 0 dB6, .int .i64 0, .int .i64 0, .int .i64 0, .slice H6 0 hc6, .int .i64 0, .int .i64 0, .int .i64 0, .slice X6 0 xc6, .bool false, .int .i64 0, .int .i64 0, .slice L6 n5 lc6, .slice S6 ns5 sc6, .int .i64 (n5 : Nat), .slice O6 0 oc6] (fun x => (Sl x 7 A n (WT wl) ∧ (Sl x 7 A5c n (WT wl) ∧ Sl x 4 B5c m (GT (gotsL m))) ∧ LgW x KA6 WA6 KB6 WB6 L6 S6 O6 lc6 0 n5 ns5 0 es5 n5 z5) ∧ Sl x 4 Ac q5 (ackM q5 m)))
                case first =>
                  by_cases hD : D5 < n5
                  · have HD := Lib.hid hD
                    have e1 : no5 = 1 := by
                      have h1 := HF5.out.2.2.2.2.2
                      rw [h1]
                      unfold oweN
                      rw [if_pos (by rw [← HF5.out.2.2.2.2.1]; exact hD)]
                    have e2 : q4 = 0 ∧ ca4 = 0 ∧ n5 = m + 1 := by
                      have h1 := HF5.out.1
                      omega
                    obtain ⟨e3, e4, e5⟩ := e2
                    have HE5n := Lib.hid e5
                    clear hD e5
                    subst e1 e3 e4
                    have hso := HX14.out.ok.2
                    go_wp2_with (at_builtin; refine wpList_append_grow0 rfl _ _ 49 rfl 71 iA _ 4 32 Tryz.underlying49 hiA hzA hsA hyA (by first | kernel_rfl | simp [Value.cells]) (by decide) Ab rfl Oo 1 po (oweL es5 D5) rfl (by decide) (by unfold maxLen; omega) (by omega) hso ?_; intro g8 c8 v14 R14 b14 hc14)
                    go_meet
                    refine ⟨some ⟨g8, 0, none⟩, 1, c8, rfl, .inr ⟨rfl, HE5n.out⟩, fun _ _ => rfl, ?_⟩
                    have e6 : oweL es5 D5 = ackM 1 m := by
                      unfold oweL ackM
                      rw [if_pos (by rw [← HF5.out.2.2.2.2.1]; exact HD.out), if_neg (by decide), ← HF5.out.2.2.2.2.1, HE5n.out]
                      simp
                    rw [← e6]
                    exact (HX14.out.add b14 (Nat.le_refl _) ((Row.on R14).map (fun v hv => Row.sl hv))).map (fun x h => ⟨h.1.1.1, h.2⟩)
                  · have e1 : no5 = 0 := by
                      have h1 := HF5.out.2.2.2.2.2
                      rw [h1]
                      unfold oweN
                      rw [if_neg (by rw [← HF5.out.2.2.2.2.1]; exact hD)]
                    have HD := Lib.hid hD
                    have hq44 : q4 ≤ ca4 := by have h1 := HF5.out.1; omega
                    have hA44 := HF5.out.2.2.2.1
                    have HA44 := Lib.hid hA44
                    clear hD hA44
                    subst e1
                    go_wp2_with (at_builtin; refine wpList_append_nil2 rfl _ _ 49 rfl 71 iA Tryz.underlying49 hiA Ab Oo q4 ca4 po rfl rfl hq44 HA44.out ?_)
                    go_meet
                    refine ⟨Ab, q4, ca4, rfl, ?_, fun h1 h2 => ?_, HX14.out.map (fun x h => h.1)⟩
                    · have h1 := HF5.out.1
                      omega
                    · have h3 := (HF5.out.2.2.1 ⟨h1, h2⟩).2
                      have := HD.out
                      omega
                case rest =>
                  obtain ⟨Ac, q5, ca5, rfl, hq6, hX6, HX15⟩ := hcut
                  rename World => v14
                  have HX15 := Lib.hid HX15
                  have HF6 := Lib.hid (And.intro HF5.out.2.1 hX6)
                  clear HX14 hX6
                  apply_assumption
                  go_wp2_with fail
                  go_loopg [17] 1 (fun gk iv wx => (gk = 1 ∧ iv = .int .i64 0 ∧ Hid (LX w wx p g6 g7 #[.int .i64 4, .slice A5c n c5c, .slice B5c m d5c, .int .i64 (m : Nat)] #[.slice KA6 22 cA6, .slice WA6 0 dA6, .slice KB6 22 cB6, .slice WB6 0 dB6, .int .i64 0, .int .i64 0, .int .i64 0, .slice H6 0 hc6, .int .i64 0, .int .i64 0, .int .i64 0, .slice X6 0 xc6, .bool false, .int .i64 0, .int .i64 0, .slice L6 n5 lc6, .slice S6 ns5 sc6, .int .i64 (n5 : Nat), .slice O6 0 oc6] (fun x => (Sl x 7 A n (WT wl) ∧ (Sl x 7 A5c n (WT wl) ∧ Sl x 4 B5c m (GT (gotsL m))) ∧ LgW x KA6 WA6 KB6 WB6 L6 S6 O6 lc6 0 n5 ns5 0 es5 n5 z5) ∧ Sl x 4 Ac q5 (ackM q5 m)))) ∨ (gk = 0 ∧ iv = .int .i64 1 ∧ m + 1 ≤ n5 ∧ ∃ (A8c : Option Addr) (c8c : Nat) (B8c : Option Addr) (d8c : Nat), LX w wx p g6 g7 #[.int .i64 4, .slice A8c n c8c, .slice B8c (m + 1) d8c, .int .i64 (((m + 1) : Nat) : Int)] #[.slice KA6 22 cA6, .slice WA6 0 dA6, .slice KB6 22 cB6, .slice WB6 0 dB6, .int .i64 0, .int .i64 0, .int .i64 0, .slice H6 0 hc6, .int .i64 0, .int .i64 0, .int .i64 0, .slice X6 0 xc6, .bool false, .int .i64 0, .int .i64 0, .slice L6 n5 lc6, .slice S6 ns5 sc6, .int .i64 (n5 : Nat), .slice O6 0 oc6] (fun x => (Sl x 7 A n (WT wl) ∧ (Sl x 7 A8c n (WT wl) ∧ Sl x 4 B8c (m + 1) (GT (gotsL (m + 1)))) ∧ LgW x KA6 WA6 KB6 WB6 L6 S6 O6 lc6 0 n5 ns5 0 es5 n5 z5))))
                  case atStart => exact .inl ⟨rfl, rfl, HX15⟩
                  case round =>
                    clear HX15
                    rcases hrel with ⟨rfl, rfl, HX⟩ | ⟨rfl, rfl, hmn5, A8c, c8c, B8c, d8c, HX8⟩
                    · go_upto_region 31 with fail
                      go_cut [131] from 120 to 145 (fun bv wx => ∃ b : Bool, bv = .bool b ∧ (b = true → q5 = 1) ∧ (b = false → q5 = 0 ∨ cb = false) ∧ LX w wx p g6 g7 #[.int .i64 4, .slice A5c n c5c, .slice B5c m d5c, .int .i64 (m : Nat)] #[.slice KA6 22 cA6, .slice WA6 0 dA6, .slice KB6 22 cB6, .slice WB6 0 dB6, .int .i64 0, .int .i64 0, .int .i64 0, .slice H6 0 hc6, .int .i64 0, .int .i64 0, .int .i64 0, .slice X6 0 xc6, .bool false, .int .i64 0, .int .i64 0, .slice L6 n5 lc6, .slice S6 ns5 sc6, .int .i64 (n5 : Nat), .slice O6 0 oc6] (fun x => (Sl x 7 A n (WT wl) ∧ (Sl x 7 A5c n (WT wl) ∧ Sl x 4 B5c m (GT (gotsL m))) ∧ LgW x KA6 WA6 KB6 WB6 L6 S6 O6 lc6 0 n5 ns5 0 es5 n5 z5) ∧ Sl x 4 Ac q5 (ackM q5 m)))
                      case first =>
                        rcases hq6 with hq0 | ⟨hq1, hn51⟩
                        · subst hq0
                          go_wp2_with fail
                          go_meet
                          exact ⟨false, rfl, fun h => (by cases h), fun _ => .inl (by first | rfl | trivial), HX.out⟩
                        · subst hq1
                          have HN51 := Lib.hid hn51
                          clear hn51
                          cases cb with
                          | true =>
                            go_wp2_with fail
                            go_meet
                            exact ⟨true, rfl, fun _ => (by first | rfl | trivial), fun h => (by cases h), HX.out⟩
                          | false =>
                            go_wp2_with fail
                            refine (below_dc p 2 _ HX.out.d (by omega)).mono ?_
                            rintro e v2 ⟨x, rfl, ⟨x0, x1⟩, D2, W2⟩
                            have HX2 := HX.out.dice W2 D2
                            by_cases hx : x = 0
                            · subst hx
                              go_wp2_with fail
                              go_meet
                              exact ⟨true, rfl, fun _ => (by first | rfl | trivial), fun h => (by cases h), HX2⟩
                            · go_wp2_with fail
                              go_meet
                              exact ⟨false, (by rw [show (x == 0) = false from by simpa using hx]), fun h => (by cases h), fun _ => .inr (by first | rfl | trivial), HX2⟩
                      case rest =>
                        obtain ⟨b, rfl, hb1, hb2, HXA⟩ := hcut
                        rename World => v15
                        have HXA := Lib.hid HXA
                        clear HX
                        cases b with
                        | false =>
                          have HB := Lib.hid hb2
                          clear hb1 hb2 hq6
                          go_wp2_with fail
                          go_roundg (14 - (r + 1))
                          case measure => omega
                          case rel =>
                            unfold RL2
                            have hb5 := HF6.out.1
                            have hn14 : n5 ≤ n := hb5.2.2.2
                            refine ⟨r + 1, m, n5, ns5, es5, z5, rfl, by go_num, by omega, ⟨by omega, by omega, hn14⟩, fun h1 h2' => ?_, HE5, Lib.hid ⟨A5c, c5c, B5c, d5c, KA6, cA6, WA6, dA6, KB6, cB6, WB6, dB6, H6, hc6, X6, xc6, L6, lc6, S6, sc6, O6, oc6, HXA.out.map (fun x h => h.1)⟩⟩
                            by_cases h8 : 8 ≤ r
                            · exfalso
                              have hc : cb = true := by rw [HCB.out]; exact decide_eq_true (by omega)
                              have hq := HF6.out.2 hc h2'
                              rcases HB.out (by first | rfl | trivial) with h | h
                              · omega
                              · rw [hc] at h; cases h
                            · omega
                        | true =>
                          have hq1 := hb1 (by first | rfl | trivial)
                          have hn51 : n5 = m + 1 := by
                            rcases hq6 with h | h
                            · omega
                            · exact h.2
                          have HN51 := Lib.hid hn51
                          have HMN3 : Hid (m < n) := Lib.hid (by have hb5 := HF6.out.1; have hn14 : n5 ≤ n := hb5.2.2.2; omega)
                          clear hb1 hb2 hq6 hn51
                          subst hq1
                          obtain ⟨ba, oa, hAc, _⟩ := sl_ack (show Sl v15 4 Ac 1 [4, (m : Int) + 1, (m : Int) + 1, (m : Int) + 1] from HXA.out.ok.2)
                          subst hAc
                          go_upto_region 33 with fail
                          go_cut [] from 120 to 145 (fun wx => ∃ (A7c : Option Addr) (c7c : Nat) (B7c : Option Addr) (d7c : Nat), LX w wx p g6 g7 #[.int .i64 4, .slice A7c n c7c, .slice B7c (m + 1) d7c, .int .i64 (((m + 1) : Nat) : Int)] #[.slice KA6 22 cA6, .slice WA6 0 dA6, .slice KB6 22 cB6, .slice WB6 0 dB6, .int .i64 0, .int .i64 0, .int .i64 0, .slice H6 0 hc6, .int .i64 0, .int .i64 0, .int .i64 0, .slice X6 0 xc6, .bool false, .int .i64 0, .int .i64 0, .slice L6 n5 lc6, .slice S6 ns5 sc6, .int .i64 (n5 : Nat), .slice O6 0 oc6] (fun x => (Sl x 7 A n (WT wl) ∧ (Sl x 7 A7c n (WT wl) ∧ Sl x 4 B7c (m + 1) (GT (gotsL (m + 1)))) ∧ LgW x KA6 WA6 KB6 WB6 L6 S6 O6 lc6 0 n5 ns5 0 es5 n5 z5) ∧ Sl x 4 (some ⟨ba, oa, none⟩) 1 (ackM 1 m)))
                          case first =>
                            refine wp_region_P (fun w' => Blk w' g6 35 #[.int .i64 4, .slice A5c n c5c, .slice B5c m d5c, .int .i64 (m : Nat)] ∧ AckC w' ba oa m) 6 (by as_aux_lemma => kernel_rfl) ⟨HXA.out.k6.drew, AckC.of HXA.out.drew.ok.2⟩ (fun hS => ?_)
                            obtain ⟨u0, hu0⟩ : ∃ x : World, x = v15.drew := ⟨_, rfl⟩
                            rw [← hu0] at hS ⊢
                            have HU0 := HXA.out.drew
                            rw [← hu0] at HU0
                            have HU0 := Lib.hid HU0
                            clear hu0 HXA
                            refine wpAnyP_take (i := 0) (oi := _) (v := _) rfl (by as_aux_lemma => kernel_rfl) (by as_aux_lemma => kernel_rfl) (by as_aux_lemma => kernel_rfl) (by decide) (by as_aux_lemma => kernel_rfl) (by rfl) (fun _ _ _ h => h) (yieldsIf_load_mid (by rfl) 35 (.tmp 6) rfl g6 0 rfl [.int .i64 4, .slice A5c n c5c, .slice B5c m d5c, .int .i64 (m : Nat)] _ (fun w' h => blk_range h.1 _ rfl) Tryz.underlying35 rfl (by as_aux_lemma => kernel_rfl)) hS ?_
                            change wpAnyP _ _ _ _ _ _ _ _ (Act.put _ (some 134) _) _
                            simp only [Act.put, List.setIfInBounds_toArray, List.set_cons_zero, List.set_cons_succ]
                            refine wpAnyP_take0 (i := 1) (oi := _) (v := ?_) rfl (by as_aux_lemma => kernel_rfl) (by as_aux_lemma => kernel_rfl) (by as_aux_lemma => kernel_rfl) (by decide) (fun _ _ _ h => h) (Or.inl ⟨by rfl, ?_⟩) hS ?_
                            rotate_left 1
                            · intro w hSw; clear hSw; (go_simp <;> with_reducible rfl)
                            change wpAnyP _ _ _ _ _ _ _ _ (Act.put _ (some 135) _) _
                            simp only [Act.put, List.setIfInBounds_toArray, List.set_cons_zero, List.set_cons_succ]
                            refine wpAnyP_take0 (i := 2) (oi := _) (v := ?_) rfl (by as_aux_lemma => kernel_rfl) (by as_aux_lemma => kernel_rfl) (by as_aux_lemma => kernel_rfl) (by decide) (fun _ _ _ h => h) (Or.inl ⟨by rfl, ?_⟩) hS ?_
                            rotate_left 1
                            · intro w hSw; clear hSw; (go_simp <;> with_reducible rfl)
                            change wpAnyP _ _ _ _ _ _ _ _ (Act.put _ (some 136) _) _
                            simp only [Act.put, List.setIfInBounds_toArray, List.set_cons_zero, List.set_cons_succ]
                            refine wpAnyP_take0 (i := 3) (oi := _) (v := ?_) rfl (by as_aux_lemma => kernel_rfl) (by as_aux_lemma => kernel_rfl) (by as_aux_lemma => kernel_rfl) (by decide) (fun _ _ _ h => h) (Or.inl ⟨by rfl, ?_⟩) hS ?_
                            rotate_left 1
                            · intro w hSw; clear hSw; (go_simp <;> with_reducible rfl)
                            change wpAnyP _ _ _ _ _ _ _ _ (Act.put _ (some 137) _) _
                            simp only [Act.put, List.setIfInBounds_toArray, List.set_cons_zero, List.set_cons_succ]
                            refine wpAnyP_take (i := 4) (oi := _) (v := _) rfl (by as_aux_lemma => kernel_rfl) (by as_aux_lemma => kernel_rfl) (by as_aux_lemma => kernel_rfl) (by decide) (by as_aux_lemma => kernel_rfl) (by rfl) (fun _ _ _ h => h) (yieldsIf_load_mid (by rfl) 71 (.tmp 137) rfl ba oa rfl [.int .i64 4, .int .i64 ((m : Int) + 1), .int .i64 ((m : Int) + 1), .int .i64 ((m : Int) + 1)] _ (fun w' h => h.2) Tryz.underlying71 rfl (by as_aux_lemma => kernel_rfl)) hS ?_
                            change wpAnyP _ _ _ _ _ _ _ _ (Act.put _ (some 138) _) _
                            simp only [Act.put, List.setIfInBounds_toArray, List.set_cons_zero, List.set_cons_succ]
                            refine wpAnyP_one (i := 5) (o := _) (by as_aux_lemma => kernel_rfl) rfl (fun K hK => ?_)
                            go_simp
                            go_at_call 16
                            have hcc := heardAck_new A5c n c5c B5c m d5c wl u0 HU0.out.ok.1.2.1.1 HU0.out.ok.1.2.1.2 hwl hwp (by omega) HMN3.out
                            refine hcc.mono ?_
                            clear hcc
                            rintro e u2 ⟨A7c, c7c, B7c, d7c, rfl, hO, bb⟩
                            have HU2 := Lib.hid (HU0.out.add bb (Nat.le_refl _) hO)
                            clear bb hO
                            replace hS := ((⟨HU2.out.k6, AckC.of HU2.out.ok.1.2⟩ : (Blk u2 g6 35 #[.int .i64 4, .slice A5c n c5c, .slice B5c m d5c, .int .i64 (m : Nat)]) ∧ AckC u2 ba oa m))
                            refine hK.out _ _ (Or.inr hS) ?_
                            clear hK K
                            try change wpAnyP _ _ _ _ _ _ _ _ (Act.put _ (some 139) _) _
                            try simp only [Act.put, List.setIfInBounds_toArray, List.set_cons_zero, List.set_cons_succ]
                            refine wpAnyP_one (i := 6) (o := _) (by as_aux_lemma => kernel_rfl) rfl (fun K hK => ?_)
                            rw [if_pos (by rfl)]
                            refine wp_store_row 35 (.tmp 6) (.tmp 139) rfl g6 #[.int .i64 4, .slice A7c n c7c, .slice B7c (m + 1) d7c, .int .i64 (((m + 1) : Nat) : Int)] rfl rfl 35 #[.int .i64 4, .slice A5c n c5c, .slice B5c m d5c, .int .i64 (m : Nat)] HU2.out.k6 (by as_aux_lemma => kernel_rfl) rfl (by simp [Value.oneCell']) ?_
                            refine hK.out _ _ (Or.inl rfl) ?_
                            clear hK K
                            try change wpAnyP _ _ _ _ _ _ _ _ (Act.put _ none _) _
                            try simp only [Act.put, List.setIfInBounds_toArray, List.set_cons_zero, List.set_cons_succ]
                            refine wpAnyP_done (by as_aux_lemma => kernel_rfl) ?_ _
                            go_wp2_with fail
                            go_meet
                            exact ⟨A7c, c7c, B7c, d7c, (HU2.out.put6 _).map (fun x h => ⟨⟨h.1.1.1, h.2, h.1.1.2.2⟩, h.1.2⟩)⟩
                          case rest =>
                            obtain ⟨A7c, c7c, B7c, d7c, HX7⟩ := hcut
                            rename World => v16
                            clear HXA
                            have HXA := Lib.hid HX7
                            clear HX7
                            go_upto_region 34 with fail
                            refine wp_region_P (fun w' => Blk w' g6 35 #[.int .i64 4, .slice A7c n c7c, .slice B7c (m + 1) d7c, .int .i64 (((m + 1) : Nat) : Int)] ∧ AckC w' ba oa m) 6 (by as_aux_lemma => kernel_rfl) ⟨HXA.out.k6.drew, AckC.of HXA.out.drew.ok.2⟩ (fun hS => ?_)
                            obtain ⟨u0, hu0⟩ : ∃ x : World, x = v16.drew := ⟨_, rfl⟩
                            rw [← hu0] at hS ⊢
                            have HU0 := HXA.out.drew
                            rw [← hu0] at HU0
                            have HU0 := Lib.hid HU0
                            clear hu0 HXA
                            refine wpAnyP_take (i := 0) (oi := _) (v := _) rfl (by as_aux_lemma => kernel_rfl) (by as_aux_lemma => kernel_rfl) (by as_aux_lemma => kernel_rfl) (by decide) (by as_aux_lemma => kernel_rfl) (by rfl) (fun _ _ _ h => h) (yieldsIf_load_mid (by rfl) 35 (.tmp 6) rfl g6 0 rfl [.int .i64 4, .slice A7c n c7c, .slice B7c (m + 1) d7c, .int .i64 (((m + 1) : Nat) : Int)] _ (fun w' h => blk_range h.1 _ rfl) Tryz.underlying35 rfl (by as_aux_lemma => kernel_rfl)) hS ?_
                            change wpAnyP _ _ _ _ _ _ _ _ (Act.put _ (some 140) _) _
                            simp only [Act.put, List.setIfInBounds_toArray, List.set_cons_zero, List.set_cons_succ]
                            refine wpAnyP_take0 (i := 1) (oi := _) (v := ?_) rfl (by as_aux_lemma => kernel_rfl) (by as_aux_lemma => kernel_rfl) (by as_aux_lemma => kernel_rfl) (by decide) (fun _ _ _ h => h) (Or.inl ⟨by rfl, ?_⟩) hS ?_
                            rotate_left 1
                            · intro w hSw; clear hSw; (go_simp <;> with_reducible rfl)
                            change wpAnyP _ _ _ _ _ _ _ _ (Act.put _ (some 141) _) _
                            simp only [Act.put, List.setIfInBounds_toArray, List.set_cons_zero, List.set_cons_succ]
                            refine wpAnyP_take0 (i := 2) (oi := _) (v := ?_) rfl (by as_aux_lemma => kernel_rfl) (by as_aux_lemma => kernel_rfl) (by as_aux_lemma => kernel_rfl) (by decide) (fun _ _ _ h => h) (Or.inl ⟨by rfl, ?_⟩) hS ?_
                            rotate_left 1
                            · intro w hSw; clear hSw; (go_simp <;> with_reducible rfl)
                            change wpAnyP _ _ _ _ _ _ _ _ (Act.put _ (some 142) _) _
                            simp only [Act.put, List.setIfInBounds_toArray, List.set_cons_zero, List.set_cons_succ]
                            refine wpAnyP_take0 (i := 3) (oi := _) (v := ?_) rfl (by as_aux_lemma => kernel_rfl) (by as_aux_lemma => kernel_rfl) (by as_aux_lemma => kernel_rfl) (by decide) (fun _ _ _ h => h) (Or.inl ⟨by rfl, ?_⟩) hS ?_
                            rotate_left 1
                            · intro w hSw; clear hSw; (go_simp <;> with_reducible rfl)
                            change wpAnyP _ _ _ _ _ _ _ _ (Act.put _ (some 143) _) _
                            simp only [Act.put, List.setIfInBounds_toArray, List.set_cons_zero, List.set_cons_succ]
                            refine wpAnyP_take (i := 4) (oi := _) (v := _) rfl (by as_aux_lemma => kernel_rfl) (by as_aux_lemma => kernel_rfl) (by as_aux_lemma => kernel_rfl) (by decide) (by as_aux_lemma => kernel_rfl) (by rfl) (fun _ _ _ h => h) (yieldsIf_load_mid (by rfl) 71 (.tmp 143) rfl ba oa rfl [.int .i64 4, .int .i64 ((m : Int) + 1), .int .i64 ((m : Int) + 1), .int .i64 ((m : Int) + 1)] _ (fun w' h => h.2) Tryz.underlying71 rfl (by as_aux_lemma => kernel_rfl)) hS ?_
                            change wpAnyP _ _ _ _ _ _ _ _ (Act.put _ (some 144) _) _
                            simp only [Act.put, List.setIfInBounds_toArray, List.set_cons_zero, List.set_cons_succ]
                            refine wpAnyP_one (i := 5) (o := _) (by as_aux_lemma => kernel_rfl) rfl (fun K hK => ?_)
                            go_simp
                            go_at_call 16
                            have hcc := heard_cast (wl := wl) (heardAck_old A7c n c7c B7c (m + 1) d7c wl u0 HU0.out.ok.1.2.1.1 HU0.out.ok.1.2.1.2 hwl hwp (by omega) (by have := HMN3.out; omega) (by omega))
                            refine hcc.mono ?_
                            clear hcc
                            rintro e u2 ⟨A8c, c8c, B8c, d8c, rfl, hO, bb⟩
                            have HU2 := Lib.hid (HU0.out.add bb (Nat.le_refl _) hO)
                            clear bb hO
                            replace hS := ((⟨HU2.out.k6, AckC.of HU2.out.ok.1.2⟩ : (Blk u2 g6 35 #[.int .i64 4, .slice A7c n c7c, .slice B7c (m + 1) d7c, .int .i64 (((m + 1) : Nat) : Int)]) ∧ AckC u2 ba oa m))
                            refine hK.out _ _ (Or.inr hS) ?_
                            clear hK K
                            try change wpAnyP _ _ _ _ _ _ _ _ (Act.put _ (some 145) _) _
                            try simp only [Act.put, List.setIfInBounds_toArray, List.set_cons_zero, List.set_cons_succ]
                            refine wpAnyP_one (i := 6) (o := _) (by as_aux_lemma => kernel_rfl) rfl (fun K hK => ?_)
                            rw [if_pos (by rfl)]
                            refine wp_store_row 35 (.tmp 6) (.tmp 145) rfl g6 #[.int .i64 4, .slice A8c n c8c, .slice B8c (m + 1) d8c, .int .i64 (((m + 1) : Nat) : Int)] rfl rfl 35 #[.int .i64 4, .slice A7c n c7c, .slice B7c (m + 1) d7c, .int .i64 (((m + 1) : Nat) : Int)] HU2.out.k6 (by as_aux_lemma => kernel_rfl) rfl (by simp [Value.oneCell']) ?_
                            refine hK.out _ _ (Or.inl rfl) ?_
                            clear hK K
                            try change wpAnyP _ _ _ _ _ _ _ _ (Act.put _ none _) _
                            try simp only [Act.put, List.setIfInBounds_toArray, List.set_cons_zero, List.set_cons_succ]
                            refine wpAnyP_done (by as_aux_lemma => kernel_rfl) ?_ _
                            go_wp2_with fail
                            go_roundg 0
                            case measure => omega
                            case rel =>
                              refine .inr ⟨rfl, by go_num, ?_⟩
                              exact ⟨by have := HN51.out; omega, A8c, c8c, B8c, d8c, (HU2.out.put6 _).map (fun x h => ⟨h.1.1.1, h.2, h.1.1.2.2⟩)⟩
                    · have HX9 := Lib.hid HX8
                      have HM5 := Lib.hid hmn5
                      clear HX8 hmn5
                      have hq7 : q5 = 0 ∨ q5 = 1 := by
                        rcases hq6 with h | h
                        · exact .inl h
                        · exact .inr h.1
                      clear hq6
                      rcases hq7 with rfl | rfl
                      all_goals
                        go_wp2_with fail
                        go_roundg (14 - (r + 1))
                        case measure => omega
                        case rel =>
                          unfold RL2
                          have hb5 := HF6.out.1
                          have hn14 : n5 ≤ n := hb5.2.2.2
                          refine ⟨r + 1, m + 1, n5, ns5, es5, z5, rfl, by go_num, by omega, ⟨(by have := HM5.out; omega), by omega, hn14⟩, fun h1 h2 => ?_, HE5, Lib.hid ⟨A8c, c8c, B8c, d8c, KA6, cA6, WA6, dA6, KB6, cB6, WB6, dB6, H6, hc6, X6, xc6, L6, lc6, S6, sc6, O6, oc6, HX9.out⟩⟩
                          have hm5 := HM5.out
                          have h3 := hcl
                          by_cases h8 : 8 ≤ r
                          · have := h3 h8 (by omega)
                            omega
                          · omega
        · as_aux_lemma =>
            have hN8 := hN4
            have hr14 : r = 14 := by omega
            have hnm : n = m := by
              by_cases h : m < n
              · have := hcl (by omega) h
                omega
              · omega
            have hkn : n = k := by omega
            have hlt' : ¬ (r : Int) < 14 := by omega
            clear hcl hr hm1 hm2 hm3 hlt
            subst hnm hkn hr14
            obtain ⟨Ac, cc, Bc, dc, KA, cA, WA, dA, KB, cB, WB, dB, H, hc, X, xc, L, lc, S, sc, O, oc, HXX⟩ := HX.out
            have HX := Lib.hid HXX
            have HP := Lib.hid HXX.ok.2.2.p
            have HLN := Lib.hid (HXX.ok.2.2.hn.symm)
            clear HXX
            have e1 := heldIn2_yes KA cA WA dA KB cB WB dB H hc X xc L lc S sc O oc 0 n ns 0 n es z wr HX.out.ok.2.2
            rw [List.take_of_length_le (Nat.le_of_eq HLN.out)] at e1
            go_wp2_with (show wpList _ _ _ (Oper.mk _ (Op.load 51 _) _ _ _ _ :: _) _ _; refine wpList_load_row rfl 51 _ rfl g7 rfl 51 #[.slice KA 22 cA, .slice WA 0 dA, .slice KB 22 cB, .slice WB 0 dB, .int .i64 0, .int .i64 0, .int .i64 0, .slice H 0 hc, .int .i64 0, .int .i64 0, .int .i64 0, .slice X 0 xc, .bool false, .int .i64 0, .int .i64 0, .slice L n lc, .slice S ns sc, .int .i64 (n : Nat), .slice O 0 oc] (0, 0) _ HX.out.k7 Tryz.underlying51 rfl (by as_aux_lemma => kernel_rfl) ?_)
            refine e1.mono ?_
            rintro e u1 ⟨A9, c9, rfl, R9, b9⟩
            clear e1
            have HX1 := Lib.hid (HX.out.add b9 (Nat.le_refl _) ((Row.on R9).map (fun v hv => Row.sl hv)))
            clear HX R9 b9
            have e2 := entriesOf_four A9 n c9 es u1 HX1.out.ok.2 HP.out HLN.out
            go_wp2_with fail
            refine e2.mono ?_
            rintro e u2 ⟨Ah, ch, rfl, Rh, bh⟩
            clear e2
            have HX2 : Hid (LX w u2 p g6 g7 #[.int .i64 4, .slice Ac n cc, .slice Bc n dc, .int .i64 (n : Nat)] #[.slice KA 22 cA, .slice WA 0 dA, .slice KB 22 cB, .slice WB 0 dB, .int .i64 0, .int .i64 0, .int .i64 0, .slice H 0 hc, .int .i64 0, .int .i64 0, .int .i64 0, .slice X 0 xc, .bool false, .int .i64 0, .int .i64 0, .slice L n lc, .slice S ns sc, .int .i64 (n : Nat), .slice O 0 oc] (fun x => Sl x 7 A n (WT wl) ∧ (Sl x 7 Ac n (WT wl) ∧ Sl x 4 Bc n (GT (gotsL n))) ∧ Sl x 9 Ah n (EN es))) := Lib.hid ((HX1.out.add bh (Nat.le_refl _) ((Row.on Rh).map (fun v hv => Row.sl hv))).map (fun x h => ⟨h.1.1.1, h.1.1.2.1, h.2⟩))
            clear HX1 Rh bh
            have r0 := HX2.out.k6.cell 0
            have r1 := HX2.out.k6.cell 1
            have r2 := HX2.out.k6.cell 2
            have r3 := HX2.out.k6.cell 3
            have rlt := HX2.out.k6.lt
            have e3 := allDone_any Ac n cc Bc n dc 4 (n : Int) wl (gotsL n) u2 HX2.out.ok.2.1.1 HX2.out.ok.2.1.2 HWL.out.1 (gotsL_len n) (by unfold maxLen; omega) (by unfold maxLen; omega)
            rw [show doneB 4 wl (gotsL n) (n : Int) = true by unfold doneB; rw [gots_client HWL.out.2 (by rw [HWL.out.1]; omega) n (Nat.le_of_eq HWL.out.1.symm), gotsL_len, HWL.out.1]; simp] at e3
            go_wp2_with fail
            refine e3.mono ?_
            rintro e u3 ⟨rfl, b3⟩
            clear e3 r0 r1 r2 r3 rlt
            have HX3 := Lib.hid (HX2.out.below b3)
            clear HX2 b3
            have r0 := HX3.out.k6.cell 0
            have r1 := HX3.out.k6.cell 1
            have r2 := HX3.out.k6.cell 2
            have r3 := HX3.out.k6.cell 3
            have rlt := HX3.out.k6.lt
            go_wp2_with fail
            clear r0 r1 r2 r3 rlt
            go_loopg [19] n (fun gk iv wx => ∃ (i : Nat), gk = n - i ∧ i ≤ n ∧ iv = .int .i64 (i : Nat) ∧ Hid (LX w wx p g6 g7 #[.int .i64 4, .slice Ac n cc, .slice Bc n dc, .int .i64 (n : Nat)] #[.slice KA 22 cA, .slice WA 0 dA, .slice KB 22 cB, .slice WB 0 dB, .int .i64 0, .int .i64 0, .int .i64 0, .slice H 0 hc, .int .i64 0, .int .i64 0, .int .i64 0, .slice X 0 xc, .bool false, .int .i64 0, .int .i64 0, .slice L n lc, .slice S ns sc, .int .i64 (n : Nat), .slice O 0 oc] (fun x => Sl x 7 A n (WT wl) ∧ (Sl x 7 Ac n (WT wl) ∧ Sl x 4 Bc n (GT (gotsL n))) ∧ Sl x 9 Ah n (EN es))))
            case atStart => exact ⟨0, by omega, by omega, rfl, HX3⟩
            case round =>
              clear HX3
              obtain ⟨i, rfl, hi, rfl, HX⟩ := hrel
              by_cases hlt : i < n
              · have hlt' : (i : Int) < (n : Int) := by omega
                have hwk : IntKind.i64.wrap ((i : Int) + 1) = (i : Int) + 1 := by rw [IntKind.wrap_i64]; omega
                go_upto_region 41 with fail
                obtain ⟨ea, eb, hab, -, -⟩ := HWL.out.2 i (by rw [HWL.out.1]; exact hlt)
                obtain ⟨fx, -, fs, fk, -, -, fg, fh, -⟩ := HP.out.2.1 i (by rw [HLN.out]; exact hlt)
                obtain ⟨fa, fb⟩ := HE.out.2 i (by rw [HLN.out]; exact hlt)
                rw [hab] at fa fb
                simp only at fa fb
                obtain ⟨b9, o9, hA9, hb9, y0, y1, y2, y3, y4, y5, y6, y7, y8⟩ := ent_cells HX.out.ok.2.2 HLN.out hlt
                rw [fx] at y0
                rw [fs] at y3
                rw [fk] at y4
                rw [fa] at y5
                rw [fb] at y6
                rw [fg] at y7
                rw [fh] at y8
                obtain ⟨b7, o7, hA7, -, -⟩ := sl_wants HX.out.ok.1 (by omega)
                subst hA9 hA7
                obtain ⟨hb7, t0, t1, t2, t3, t4, t5, t6⟩ := want_at HX.out.ok.1 hlt
                rw [hab] at t0 t1 t2 t3 t4 t5 t6
                simp only at t0 t1 t2 t3 t4 t5 t6
                obtain ⟨b4, o4, hA4, hb4, hc4⟩ := sl_gots HX.out.ok.2.1.2 (by omega)
                subst hA4
                obtain ⟨s0, s1, s2, s3⟩ := hc4 i hlt
                rw [gotsL_get n i hlt] at s0 s1 s2 s3
                simp only at s0 s1 s2 s3
                have r0 := HX.out.k6.cell 0
                have r1 := HX.out.k6.cell 1
                have r2 := HX.out.k6.cell 2
                have r3 := HX.out.k6.cell 3
                have rlt := HX.out.k6.lt
                have hopn := op_neq 1 ea eb 0 0
                clear hc4 fx fs fk fa fb fg fh hab
                go_cut [207] (fun cv wx => cv = .bool false ∧ Hid (LX w wx p g6 g7 #[.int .i64 4, .slice Ac n cc, .slice (some ⟨b4, o4, none⟩) n dc, .int .i64 (n : Nat)] #[.slice KA 22 cA, .slice WA 0 dA, .slice KB 22 cB, .slice WB 0 dB, .int .i64 0, .int .i64 0, .int .i64 0, .slice H 0 hc, .int .i64 0, .int .i64 0, .int .i64 0, .slice X 0 xc, .bool false, .int .i64 0, .int .i64 0, .slice L n lc, .slice S ns sc, .int .i64 (n : Nat), .slice O 0 oc] (fun x => Sl x 7 (some ⟨b7, o7, none⟩) n (WT wl) ∧ (Sl x 7 Ac n (WT wl) ∧ Sl x 4 (some ⟨b4, o4, none⟩) n (GT (gotsL n))) ∧ Sl x 9 (some ⟨b9, o9, none⟩) n (EN es))))
                case first =>
                  go_quiet (fail)
                  go_wp2_with fail
                  go_meet
                  first
                    | exact ⟨rfl, Lib.hid (HX.out.drewN _)⟩
                    | exact ⟨rfl, Lib.hid HX.out.drew⟩
                    | exact ⟨rfl, HX⟩
                case rest =>
                  obtain ⟨rfl, HX5⟩ := hcut
                  rename World => u5
                  clear r0 r1 r2 r3 rlt hb9 y0 y1 y2 y3 y4 y5 y6 y7 y8 hb7 t0 t1 t2 t3 t4 t5 t6 hb4 s0 s1 s2 s3 hopn HX
                  go_wp2_with fail
                  go_roundg (n - (i + 1))
                  case measure => omega
                  case rel => exact ⟨i + 1, rfl, by omega, by go_num, HX5⟩
              · have hin : i = n := by omega
                have hlt' : ¬ (i : Int) < (n : Int) := by omega
                subst hin
                go_wp2_with fail
                go_ret
                exact ⟨rfl, HX.out.b⟩
end Go.Proofs.YtbheflinchabgaaGreatDoor
