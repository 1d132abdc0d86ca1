/- The walk of the law FnClientOnce. -/
import Derived.Test.YtbcpcddmekoaeaaCO1
import Derived.Test.YtbcpcddmekoaeaaC4
import Derived.Deep.LoopGhost
import Derived.Deep.DeepCutAuto
import Derived.Deep.RegionHeldLaw
namespace Go.Proofs.Ytbcpcddmekoaeaa
set_option linter.unusedSimpArgs false
set_option linter.unusedVariables false
attribute [local go_sem] n_lt2 n_lt3 n_lt4 n_le2 n_le3
open Go.RowKit
attribute [local go_sem] Ext.cell Ext.frozen

set_option maxRecDepth 100000 in
set_option maxHeartbeats 8000000 in
theorem law_ClientOnce (A : Option Addr) (n cap : Nat) (bs : List Int) (w : World) (hS : SlB w A n bs) (hnc : n ≤ cap) (hcm : cap ≤ maxLen) :
    Calls Try.prog 12 #[.slice A n cap] w fun e' w' => e' = .returned (.bool true) ∧ Below w.heap.size w w' := by
  have hm0 : n ≤ maxLen := Nat.le_trans hnc hcm
  by_cases hbig : 4096 < n
  · have hd : decide (4096 < n) = true := decide_eq_true hbig
    have cb := big_any A n cap w hm0
    rw [hd] at cb
    clear hd hbig
    go_enter Try.func12, Try.ntmps12
    go_wp2_with fail
    refine cb.mono ?_
    rintro e w' ⟨rfl, rfl⟩
    go_wp2_with fail
    go_ret
    exact ⟨rfl, Below.refl _ _⟩
  have hd : decide (4096 < n) = false := decide_eq_false hbig
  have cb := big_any A n cap w hm0
  rw [hd] at cb
  have HSB := Lib.hid hS
  have hn4 : n ≤ 4096 := by omega
  clear hd hS hbig
  go_enter Try.func12, Try.ntmps12
  go_wp2_with fail
  refine cb.mono ?_
  rintro e w' ⟨rfl, rfl⟩
  clear cb
  go_wp2_with fail
  refine (roll_dc A n cap bs 931 w HSB.out hn4 (by omega)).mono ?_
  rintro e w1 ⟨rfl, D1, b1⟩
  clear HSB
  obtain ⟨p, hp⟩ : ∃ p, p = w.heap.size := ⟨_, rfl⟩
  rw [← hp] at D1 ⊢
  have F1 : Below p w w1 := by rw [hp]; exact b1
  have HP := Lib.hid hp
  clear b1 hp
  go_wp2_with fail
  refine (below_dc p 6 w1 D1 (by omega)).mono ?_
  rintro e w2 ⟨x, rfl, ⟨x0, x1⟩, D2, W2⟩
  have F2 : Below p w w2 := W2.below F1 (Nat.le_of_lt D1.lt) (fun a ha => by obtain rfl := Option.some.inj ha; exact Nat.le_refl _)
  clear D1 W2 F1
  obtain ⟨N, rfl⟩ : ∃ N : Nat, x = (N : Int) - 1 := ⟨(x + 1).toNat, by omega⟩
  go_wp2_with fail
  rw [show (1 : Int) + ((N : Int) - 1) = (N : Int) by omega]
  refine (w9Wants_any p N w2 D2 (by omega)).mono ?_
  rintro e w3 ⟨A2, c2, wl, rfl, hl, hwb, R3, D3, W3⟩
  have F3 : Below p w w3 := W3.below F2 (Nat.le_of_lt D2.lt) (fun a ha => by obtain rfl := Option.some.inj ha; exact Nat.le_refl _)
  have hp3 := D3.lt
  clear D2 W3 F2
  have cnew := client_new hwb (by omega)
  have e1 := newClient_any A2 N c2 4 wl w3 R3.sl hl (by omega)
  rw [show newI 4 wl = 4 by unfold newI newB; rw [if_pos cnew], show newL 4 wl = wl by unfold newL newB; rw [if_pos cnew], hl] at e1
  have HC := Lib.hid (And.intro cnew hl)
  clear cnew hwb hl
  go_wp2_with fail
  refine e1.mono ?_
  rintro e w4 ⟨A4, c4, B4, d4, rfl, P4, Q4, _, b4⟩
  clear e1
  have z4 := b4.size
  have F4 : Below p w w4 := F3.trans (b4.mono (Nat.le_of_lt hp3))
  have D4 := D3.below b4 hp3
  have X4 := CB.fresh (t0 := 0) (P4.mono hp3) (Q4.mono hp3) (Nat.lt_of_lt_of_le hp3 z4)
  have D5 := D4.alloc (.cells #[.int .i64 4, .slice A4 N c4, .slice B4 0 d4, .int .i64 0] 31)
  have F5 : Below p w (w4.alloc (.cells #[.int .i64 4, .slice A4 N c4, .slice B4 0 d4, .int .i64 0] 31)) := F4.alloc (Nat.le_of_lt (Nat.lt_of_lt_of_le hp3 z4)) _
  obtain ⟨gx, hgx⟩ : ∃ g, g = w4.heap.size := ⟨_, rfl⟩
  rw [← hgx] at X4
  have HX := Lib.hid (And.intro X4 (And.intro D5 F5))
  have HG := Lib.hid hgx
  clear X4 D5 F5 D3 D4 P4 Q4 b4 F3 F4 R3
  go_wp2_with fail
  rw [← hgx]
  go_loopg [6] 24 (fun gk kv wr => ∃ (k : Nat) (A : Option Addr) (c : Nat) (B : Option Addr) (m d : Nat) (t0 : Int) (gl : List Gt), gk = 24 - k ∧ k ≤ 24 ∧ kv = .int .i64 k ∧ Hid (clientB 4 wl gl t0 = true) ∧ (0 ≤ t0 ∧ t0 ≤ 2000) ∧ Hid (gl.length = m) ∧ Hid (CB wr gx p A N c B m d t0 (WT wl) (GT gl)) ∧ Hid (DC wr p 113) ∧ Hid (Below p w wr))
  case atStart => exact ⟨0, A4, c4, B4, 0, d4, 0, [], rfl, by omega, rfl, Lib.hid HC.out.1, ⟨by omega, by omega⟩, Lib.hid rfl, Lib.hid HX.out.1, Lib.hid HX.out.2.1, Lib.hid HX.out.2.2⟩
  case round =>
    clear hgx HG HX
    obtain ⟨k, A, c, B, m, d, t0, gl, rfl, hk, rfl, HB, ht0, HM, HX, HD, HF⟩ := hrel
    have hmN : m ≤ N ∧ N ≤ 12 := by have := clientB_le HB.out; rw [HC.out.2, HM.out] at this; omega
    by_cases hlt : k < 24
    · have hlt' : (k : Int) < 24 := by omega
      skip
      obtain ⟨HXo, HDo⟩ := And.intro HX HD
      have lX := HX.out.k.lt
      have lp := HD.out.lt
      have lt_X := HX.out.k.lt
      have r_X0 : wr.cell? ⟨gx, 0, none⟩ = some (.int .i64 4) := HX.out.k.cell 0
      have z_X0 := HX.out.k.frozen 0
      have r_X1 : wr.cell? ⟨gx, 1, none⟩ = some (.slice A N c) := HX.out.k.cell 1
      have z_X1 := HX.out.k.frozen 1
      have r_X2 : wr.cell? ⟨gx, 2, none⟩ = some (.slice B m d) := HX.out.k.cell 2
      have z_X2 := HX.out.k.frozen 2
      have r_X3 : wr.cell? ⟨gx, 3, none⟩ = some (.int .i64 t0) := HX.out.k.cell 3
      have z_X3 := HX.out.k.frozen 3
      go_wp2_with fail
      refine calls_named ?_
      rintro v1 hv1
      obtain ⟨gy, hgy⟩ : ∃ g, g = wr.heap.size := ⟨_, rfl⟩
      rw [← hgy]
      have X_1 : Hid (CB v1 gx p A N c B m d t0 (WT wl) (GT gl)) := by rw [hv1]; exact HX.out.alloc _
      have Y_1 : Hid (CB v1 gy p A N c B m d t0 (WT wl) (GT gl)) := by rw [hv1, hgy]; exact HX.out.copy
      have D_1 : Hid (DC v1 p 113) := by rw [hv1]; exact HD.out.alloc _
      have F_1 : Hid (Below p w v1) := by rw [hv1]; exact HF.out.alloc (Nat.le_of_lt lp) _
      have hxy : gx < gy := by rw [hgy]; exact lX
      clear hv1 hgy HXo HDo HX HD HF lX lp
      clear lt_X r_X0 z_X0 r_X1 z_X1 r_X2 z_X2 r_X3 z_X3
      refine (below_dc p 7 v1 D_1.out (by omega)).mono ?_
      rintro e v2 ⟨sq, rfl, ⟨sq0, sq1⟩, D, W⟩
      have X_2 := Lib.hid (X_1.out.dice W)
      have Y_2 := Lib.hid (Y_1.out.dice W)
      have F_2 := Lib.hid (W.below F_1.out (Nat.le_of_lt D_1.out.lt) (fun a ha => by obtain rfl := Option.some.inj ha; exact Nat.le_refl _))
      have D_2 := Lib.hid D
      clear D W X_1 Y_1 F_1 D_1
      go_wp2_with fail
      refine (below_dc p 30 v2 D_2.out (by omega)).mono ?_
      rintro e v3 ⟨ix, rfl, ⟨ix0, ix1⟩, D, W⟩
      have X_3 := Lib.hid (X_2.out.dice W)
      have Y_3 := Lib.hid (Y_2.out.dice W)
      have F_3 := Lib.hid (W.below F_2.out (Nat.le_of_lt D_2.out.lt) (fun a ha => by obtain rfl := Option.some.inj ha; exact Nat.le_refl _))
      have D_3 := Lib.hid D
      clear D W X_2 Y_2 F_2 D_2
      go_wp2_with fail
      refine (below_dc p 3 v3 D_3.out (by omega)).mono ?_
      rintro e v4 ⟨q, rfl, ⟨q0, q1⟩, D, W⟩
      have X_4 := Lib.hid (X_3.out.dice W)
      have Y_4 := Lib.hid (Y_3.out.dice W)
      have F_4 := Lib.hid (W.below F_3.out (Nat.le_of_lt D_3.out.lt) (fun a ha => by obtain rfl := Option.some.inj ha; exact Nat.le_refl _))
      have D_4 := Lib.hid D
      clear D W X_3 Y_3 F_3 D_3
      go_upto_if 35 with fail
      go_cut [8, 9] (fun sv iv wx => ∃ sq ix : Int, sv = .int .i64 sq ∧ iv = .int .i64 ix ∧ (1 ≤ sq ∧ sq ≤ 100) ∧ (0 ≤ ix ∧ ix ≤ 3000) ∧ Hid (CB wx gx p A N c B m d t0 (WT wl) (GT gl)) ∧ Hid (CB wx gy p A N c B m d t0 (WT wl) (GT gl)) ∧ Hid (DC wx p 113) ∧ Hid (Below p w wx))
      case first =>
        by_cases hq : 0 < q
        · have lt_X := X_4.out.k.lt
          have r_X0 : v4.cell? ⟨gx, 0, none⟩ = some (.int .i64 4) := X_4.out.k.cell 0
          have z_X0 := X_4.out.k.frozen 0
          have r_X1 : v4.cell? ⟨gx, 1, none⟩ = some (.slice A N c) := X_4.out.k.cell 1
          have z_X1 := X_4.out.k.frozen 1
          have r_X2 : v4.cell? ⟨gx, 2, none⟩ = some (.slice B m d) := X_4.out.k.cell 2
          have z_X2 := X_4.out.k.frozen 2
          have r_X3 : v4.cell? ⟨gx, 3, none⟩ = some (.int .i64 t0) := X_4.out.k.cell 3
          have z_X3 := X_4.out.k.frozen 3
          have hq1 : (0 : Int) < q := hq
          have hk0 := X_4.out.k.cell 3
          go_upto_region 14 with fail
          go_region_held_law (fun w' => w'.cell? ⟨gx, 3, none⟩ = some (.int .i64 t0)) (first | exact r_X3 | exact hk1) (first | (go_at_call 52; refine (below_dc p 4 _ (by first | exact D_4.out | exact D_4.out.drew) (by omega)).mono ?_; rintro e v5 ⟨y, rfl, ⟨y0, y1⟩, D, W⟩; have W : Wrote v4 v5 (some ⟨p, 0, none⟩) := ⟨W.os, W.tape, W.output, W.size, W.block⟩; have X_5 := Lib.hid (X_4.out.dice W); have Y_5 := Lib.hid (Y_4.out.dice W); have F_5 := Lib.hid (W.below F_4.out (Nat.le_of_lt D_4.out.lt) (fun a ha => by obtain rfl := Option.some.inj ha; exact Nat.le_refl _)); have D_5 := Lib.hid D; clear D W; have hk1 : v5.cell? ⟨gx, 3, none⟩ = some (.int .i64 t0) := X_5.out.k.cell 3))
          all_goals
            go_wp2_with fail
            go_meet
            have hwr : IntKind.i64.wrap (t0 + y) = t0 + y := by rw [IntKind.wrap_i64]; omega
            try rw [hwr]
            exact ⟨_, _, rfl, rfl, by omega, by omega, X_5, Y_5, D_5, F_5⟩
        · have hq0 : q = 0 := by omega
          subst hq0
          go_wp2_with fail
          go_meet
          exact ⟨_, _, rfl, rfl, by omega, by omega, X_4, Y_4, D_4, F_4⟩
      case rest =>
        obtain ⟨sq2, ix2, rfl, rfl, hsq, hix, X_5, Y_5, D_5, F_5⟩ := hcut
        rename World => v5
        clear X_4 Y_4 D_4 F_4 q0 q1 sq0 sq1 ix0 ix1
        go_wp2_with fail
        refine (below_dc p 2 v5 D_5.out (by omega)).mono ?_
        rintro e v6 ⟨b, rfl, ⟨b0, b1⟩, D, W⟩
        have X_6 := Lib.hid (X_5.out.dice W)
        have Y_6 := Lib.hid (Y_5.out.dice W)
        have F_6 := Lib.hid (W.below F_5.out (Nat.le_of_lt D_5.out.lt) (fun a ha => by obtain rfl := Option.some.inj ha; exact Nat.le_refl _))
        have D_6 := Lib.hid D
        clear D W X_5 Y_5 F_5 D_5
        go_upto_if 47 with fail
        go_cut [] (fun wx => ∃ (A' : Option Addr) (c' : Nat) (B' : Option Addr) (m' d' : Nat) (t' : Int) (gl' : List Gt), Hid (Heard wl gl t0 sq2 ix2 m' t' gl') ∧ Hid (CB wx gx p A N c B m d t0 (WT wl) (GT gl)) ∧ Hid (CB wx gy p A' N c' B' m' d' t' (WT wl) (GT gl')) ∧ Hid (DC wx p 113) ∧ Hid (Below p w wx) ∧ Hid (∀ a, A' = some a → a.block ≠ gx) ∧ Hid (∀ a, B' = some a → a.block ≠ gx))
        case first =>
          have hpos2 : (0 : Int) < 2 := by decide
          have hpos90 : (0 : Int) < 90 := by decide
          have hnA : ∀ a, A = some a → a.block ≠ gy := Y_6.out.na
          have hnB : ∀ a, B = some a → a.block ≠ gy := Y_6.out.nb
          rcases (by omega : b = 0 ∨ b = 1) with rfl | rfl
          · have lt_X := X_6.out.k.lt
            have r_X0 : v6.cell? ⟨gx, 0, none⟩ = some (.int .i64 4) := X_6.out.k.cell 0
            have z_X0 := X_6.out.k.frozen 0
            have r_X1 : v6.cell? ⟨gx, 1, none⟩ = some (.slice A N c) := X_6.out.k.cell 1
            have z_X1 := X_6.out.k.frozen 1
            have r_X2 : v6.cell? ⟨gx, 2, none⟩ = some (.slice B m d) := X_6.out.k.cell 2
            have z_X2 := X_6.out.k.frozen 2
            have r_X3 : v6.cell? ⟨gx, 3, none⟩ = some (.int .i64 t0) := X_6.out.k.cell 3
            have z_X3 := X_6.out.k.frozen 3
            go_upto_region 16 with fail
            go_region_held_law (fun w' => w'.cell? ⟨gx, 0, none⟩ = some (.int .i64 4) ∧ w'.cell? ⟨gx, 1, none⟩ = some (.slice A N c) ∧ w'.cell? ⟨gx, 2, none⟩ = some (.slice B m d) ∧ w'.cell? ⟨gx, 3, none⟩ = some (.int .i64 t0)) (first | with_reducible exact CB.cells X_6.out | with_reducible exact CB.cells_drew X_6.out | with_reducible exact CB.cells X_7.out | with_reducible exact CB.cells_drew X_7.out | with_reducible exact CB.cells X_8.out | with_reducible exact CB.cells_drew X_8.out | with_reducible exact CB.cells (X_8.out.far4 (Nat.ne_of_lt hxy) hnA hnB _ _ _ _) | with_reducible exact CB.cells_drew (X_8.out.far4 (Nat.ne_of_lt hxy) hnA hnB _ _ _ _)) (first | (go_at_call 52; (first | with_reducible refine (below_dc p 2 _ D_6.out hpos2).mono ?_ | with_reducible refine (below_dc p 2 _ D_6.out.drew hpos2).mono ?_ | with_reducible refine (below_dc p 2 _ D_6.out.drew.drew hpos2).mono ?_); rintro e v7 ⟨c4, rfl, ⟨c40, c41⟩, D, W⟩; have W : Wrote v6 v7 (some ⟨p, 0, none⟩) := ⟨W.os, W.tape, W.output, W.size, W.block⟩; have X_7 := Lib.hid (X_6.out.dice W); have Y_7 := Lib.hid (Y_6.out.dice W); have F_7 := Lib.hid (W.below F_6.out (Nat.le_of_lt D_6.out.lt) (fun a ha => by obtain rfl := Option.some.inj ha; exact Nat.le_refl _)); have D_7 := Lib.hid D; clear D W; have kx0 : v7.cell? ⟨gx, 0, none⟩ = some (.int .i64 4) := X_7.out.k.cell 0; have kx1 : v7.cell? ⟨gx, 1, none⟩ = some (.slice A N c) := X_7.out.k.cell 1; have kx2 : v7.cell? ⟨gx, 2, none⟩ = some (.slice B m d) := X_7.out.k.cell 2; have kx3 : v7.cell? ⟨gx, 3, none⟩ = some (.int .i64 t0) := X_7.out.k.cell 3) | (go_at_call 43; refine (heardAck_once A N c B m d t0 wl gl _ sq2 ix2 _ (by first | exact X_7.out.P.sl | exact Sl.drew X_7.out.P.sl) (by first | exact X_7.out.Q.sl | exact Sl.drew X_7.out.Q.sl) HC.out.2 HM.out HB.out ht0).mono ?_; rintro e v8 ⟨A', c', B', m', d', t', gl', rfl, HH, P8, Q8, b8⟩; have b8 : Below v7.heap.size v7 v8 := ⟨b8.os, b8.tape, b8.output, b8.size, b8.block⟩; have HH := Lib.hid HH; have P8 : Row v8 v7.heap.size 80 7 A' N c' (WT wl) := P8; have Q8 : Row v8 v7.heap.size 72 4 B' m' d' (GT gl') := Q8; have HA8 : Hid (∀ a, A' = some a → a.block ≠ gx ∧ a.block ≠ gy) := Lib.hid (fun a ha => by have h1 := P8.ge a ha; have h2 := X_7.out.k.lt; have h3 := Y_7.out.k.lt; omega); have HB8 : Hid (∀ a, B' = some a → a.block ≠ gx ∧ a.block ≠ gy) := Lib.hid (fun a ha => by have h1 := Q8.ge a ha; have h2 := X_7.out.k.lt; have h3 := Y_7.out.k.lt; omega); have P8 := Lib.hid (P8.mono (show p + 1 ≤ _ from D_7.out.lt)); have Q8 := Lib.hid (Q8.mono (show p + 1 ≤ _ from D_7.out.lt)); have X_8 := Lib.hid (X_7.out.below b8); have Y_8 := Lib.hid (Y_7.out.below b8); have D_8 := Lib.hid (D_7.out.new b8); have F_8 := Lib.hid (F_7.out.trans (b8.mono (Nat.le_of_lt D_7.out.lt))); clear b8; have kz0 : v8.cell? ⟨gx, 0, none⟩ = some (.int .i64 4) := X_8.out.k.cell 0; have kz1 : v8.cell? ⟨gx, 1, none⟩ = some (.slice A N c) := X_8.out.k.cell 1; have kz2 : v8.cell? ⟨gx, 2, none⟩ = some (.slice B m d) := X_8.out.k.cell 2; have kz3 : v8.cell? ⟨gx, 3, none⟩ = some (.int .i64 t0) := X_8.out.k.cell 3; have ky0 : v8.cell? ⟨gy, 0, none⟩ = some (.int .i64 4) := Y_8.out.k.cell 0; have kyz0 := Y_8.out.k.frozen 0; have ky1 : v8.cell? ⟨gy, 1, none⟩ = some (.slice A N c) := Y_8.out.k.cell 1; have kyz1 := Y_8.out.k.frozen 1; have ky2 : v8.cell? ⟨gy, 2, none⟩ = some (.slice B m d) := Y_8.out.k.cell 2; have kyz2 := Y_8.out.k.frozen 2; have ky3 : v8.cell? ⟨gy, 3, none⟩ = some (.int .i64 t0) := Y_8.out.k.cell 3; have kyz3 := Y_8.out.k.frozen 3; have kyl := Y_8.out.k.lt))
            all_goals
              go_wp2_with fail
              go_meet
              exact ⟨A', c', B', m', d', t', gl', HH, Lib.hid (X_8.out.far4 (Nat.ne_of_lt hxy) (fun a ha => hnA a ha) (fun a ha => hnB a ha) _ _ _ _), Lib.hid (CB.put Y_8.out P8.out Q8.out (fun a ha => (HA8.out a ha).2) (fun a ha => (HB8.out a ha).2)), Lib.hid (D_8.out.far4 (Nat.lt_trans X_8.out.hp hxy) _ _ _ _), Lib.hid (below4 F_8.out (Nat.le_of_lt (Nat.lt_trans X_8.out.hp hxy)) _ _ _ _), Lib.hid (fun a ha => (HA8.out a ha).1), Lib.hid (fun a ha => (HB8.out a ha).1)⟩
          · have lt_X := X_6.out.k.lt
            have r_X0 : v6.cell? ⟨gx, 0, none⟩ = some (.int .i64 4) := X_6.out.k.cell 0
            have z_X0 := X_6.out.k.frozen 0
            have r_X1 : v6.cell? ⟨gx, 1, none⟩ = some (.slice A N c) := X_6.out.k.cell 1
            have z_X1 := X_6.out.k.frozen 1
            have r_X2 : v6.cell? ⟨gx, 2, none⟩ = some (.slice B m d) := X_6.out.k.cell 2
            have z_X2 := X_6.out.k.frozen 2
            have r_X3 : v6.cell? ⟨gx, 3, none⟩ = some (.int .i64 t0) := X_6.out.k.cell 3
            have z_X3 := X_6.out.k.frozen 3
            go_upto_region 17 with fail
            go_region_held_law (fun w' => w'.cell? ⟨gx, 0, none⟩ = some (.int .i64 4) ∧ w'.cell? ⟨gx, 1, none⟩ = some (.slice A N c) ∧ w'.cell? ⟨gx, 2, none⟩ = some (.slice B m d) ∧ w'.cell? ⟨gx, 3, none⟩ = some (.int .i64 t0)) (first | with_reducible exact CB.cells X_6.out | with_reducible exact CB.cells_drew X_6.out | with_reducible exact CB.cells X_7.out | with_reducible exact CB.cells_drew X_7.out | with_reducible exact CB.cells X_8.out | with_reducible exact CB.cells_drew X_8.out | with_reducible exact CB.cells X_9.out | with_reducible exact CB.cells_drew X_9.out | with_reducible exact CB.cells (X_9.out.far4 (Nat.ne_of_lt hxy) hnA hnB _ _ _ _) | with_reducible exact CB.cells_drew (X_9.out.far4 (Nat.ne_of_lt hxy) hnA hnB _ _ _ _)) (first | (go_at_call 52; (first | with_reducible refine (below_dc p 2 _ D_6.out hpos2).mono ?_ | with_reducible refine (below_dc p 2 _ D_6.out.drew hpos2).mono ?_ | with_reducible refine (below_dc p 2 _ D_6.out.drew.drew hpos2).mono ?_); rintro e v7 ⟨c4, rfl, ⟨c40, c41⟩, D, W⟩; have W : Wrote v6 v7 (some ⟨p, 0, none⟩) := ⟨W.os, W.tape, W.output, W.size, W.block⟩; have X_7 := Lib.hid (X_6.out.dice W); have Y_7 := Lib.hid (Y_6.out.dice W); have F_7 := Lib.hid (W.below F_6.out (Nat.le_of_lt D_6.out.lt) (fun a ha => by obtain rfl := Option.some.inj ha; exact Nat.le_refl _)); have D_7 := Lib.hid D; clear D W; have kx0 : v7.cell? ⟨gx, 0, none⟩ = some (.int .i64 4) := X_7.out.k.cell 0; have kx1 : v7.cell? ⟨gx, 1, none⟩ = some (.slice A N c) := X_7.out.k.cell 1; have kx2 : v7.cell? ⟨gx, 2, none⟩ = some (.slice B m d) := X_7.out.k.cell 2; have kx3 : v7.cell? ⟨gx, 3, none⟩ = some (.int .i64 t0) := X_7.out.k.cell 3) | (go_at_call 52; (first | with_reducible refine (below_dc p 90 _ D_7.out hpos90).mono ?_ | with_reducible refine (below_dc p 90 _ D_7.out.drew hpos90).mono ?_ | with_reducible refine (below_dc p 90 _ D_7.out.drew.drew hpos90).mono ?_); rintro e v8 ⟨vv, rfl, ⟨vv0, vv1⟩, D, W⟩; have W : Wrote v7 v8 (some ⟨p, 0, none⟩) := ⟨W.os, W.tape, W.output, W.size, W.block⟩; have X_8 := Lib.hid (X_7.out.dice W); have Y_8 := Lib.hid (Y_7.out.dice W); have F_8 := Lib.hid (W.below F_7.out (Nat.le_of_lt D_7.out.lt) (fun a ha => by obtain rfl := Option.some.inj ha; exact Nat.le_refl _)); have D_8 := Lib.hid D; clear D W; have kv0 : v8.cell? ⟨gx, 0, none⟩ = some (.int .i64 4) := X_8.out.k.cell 0; have kv1 : v8.cell? ⟨gx, 1, none⟩ = some (.slice A N c) := X_8.out.k.cell 1; have kv2 : v8.cell? ⟨gx, 2, none⟩ = some (.slice B m d) := X_8.out.k.cell 2; have kv3 : v8.cell? ⟨gx, 3, none⟩ = some (.int .i64 t0) := X_8.out.k.cell 3) | (go_at_call 40; refine (heardValue_once A N c B m d t0 wl gl _ sq2 ix2 _ _ _ (by first | exact X_8.out.P.sl | exact Sl.drew X_8.out.P.sl) (by first | exact X_8.out.Q.sl | exact Sl.drew X_8.out.Q.sl) HC.out.2 HM.out HB.out ht0).mono ?_; rintro e v9 ⟨A', c', B', m', d', t', gl', rfl, HH, P8, Q8, b8⟩; have b8 : Below v8.heap.size v8 v9 := ⟨b8.os, b8.tape, b8.output, b8.size, b8.block⟩; have HH := Lib.hid HH; have P8 : Row v9 v8.heap.size 80 7 A' N c' (WT wl) := P8; have Q8 : Row v9 v8.heap.size 72 4 B' m' d' (GT gl') := Q8; have HA8 : Hid (∀ a, A' = some a → a.block ≠ gx ∧ a.block ≠ gy) := Lib.hid (fun a ha => by have h1 := P8.ge a ha; have h2 := X_8.out.k.lt; have h3 := Y_8.out.k.lt; omega); have HB8 : Hid (∀ a, B' = some a → a.block ≠ gx ∧ a.block ≠ gy) := Lib.hid (fun a ha => by have h1 := Q8.ge a ha; have h2 := X_8.out.k.lt; have h3 := Y_8.out.k.lt; omega); have P8 := Lib.hid (P8.mono (show p + 1 ≤ _ from D_8.out.lt)); have Q8 := Lib.hid (Q8.mono (show p + 1 ≤ _ from D_8.out.lt)); have X_9 := Lib.hid (X_8.out.below b8); have Y_9 := Lib.hid (Y_8.out.below b8); have D_9 := Lib.hid (D_8.out.new b8); have F_9 := Lib.hid (F_8.out.trans (b8.mono (Nat.le_of_lt D_8.out.lt))); clear b8; have kz0 : v9.cell? ⟨gx, 0, none⟩ = some (.int .i64 4) := X_9.out.k.cell 0; have kz1 : v9.cell? ⟨gx, 1, none⟩ = some (.slice A N c) := X_9.out.k.cell 1; have kz2 : v9.cell? ⟨gx, 2, none⟩ = some (.slice B m d) := X_9.out.k.cell 2; have kz3 : v9.cell? ⟨gx, 3, none⟩ = some (.int .i64 t0) := X_9.out.k.cell 3; have ky0 : v9.cell? ⟨gy, 0, none⟩ = some (.int .i64 4) := Y_9.out.k.cell 0; have kyz0 := Y_9.out.k.frozen 0; have ky1 : v9.cell? ⟨gy, 1, none⟩ = some (.slice A N c) := Y_9.out.k.cell 1; have kyz1 := Y_9.out.k.frozen 1; have ky2 : v9.cell? ⟨gy, 2, none⟩ = some (.slice B m d) := Y_9.out.k.cell 2; have kyz2 := Y_9.out.k.frozen 2; have ky3 : v9.cell? ⟨gy, 3, none⟩ = some (.int .i64 t0) := Y_9.out.k.cell 3; have kyz3 := Y_9.out.k.frozen 3; have kyl := Y_9.out.k.lt))
            all_goals
              go_wp2_with fail
              go_meet
              exact ⟨A', c', B', m', d', t', gl', HH, Lib.hid (X_9.out.far4 (Nat.ne_of_lt hxy) (fun a ha => hnA a ha) (fun a ha => hnB a ha) _ _ _ _), Lib.hid (CB.put Y_9.out P8.out Q8.out (fun a ha => (HA8.out a ha).2) (fun a ha => (HB8.out a ha).2)), Lib.hid (D_9.out.far4 (Nat.lt_trans X_9.out.hp hxy) _ _ _ _), Lib.hid (below4 F_9.out (Nat.le_of_lt (Nat.lt_trans X_9.out.hp hxy)) _ _ _ _), Lib.hid (fun a ha => (HA8.out a ha).1), Lib.hid (fun a ha => (HB8.out a ha).1)⟩
        case rest =>
          obtain ⟨A', c', B', m', d', t', gl', HH, X_7, Y_7, D_7, F_7, HNA, HNB⟩ := hcut
          rename World => v7
          clear X_6 Y_6 D_6 F_6 b0 b1
          obtain ⟨hm1, hm2, ht1, hgs⟩ := heard_facts HH.out HM.out
          have hlm := HH.out.1
          have hbt := HH.out.2.1
          have ht2 := HH.out.2.2.1
          have hml : m' ≤ N := by have := (clientB_le hbt).2; rw [hlm, HC.out.2] at this; exact this
          have HGS := Lib.hid hgs
          have HBT := Lib.hid hbt
          have HLM := Lib.hid hlm
          clear hgs hbt hlm
          have i1 : ¬ (m' : Int) < (m : Int) := by omega
          have i2 : ¬ (m : Int) + 1 < (m' : Int) := by omega
          have i3 : ¬ t' < t0 := by omega
          have lt_X := X_7.out.k.lt
          have r_X0 : v7.cell? ⟨gx, 0, none⟩ = some (.int .i64 4) := X_7.out.k.cell 0
          have z_X0 := X_7.out.k.frozen 0
          have r_X1 : v7.cell? ⟨gx, 1, none⟩ = some (.slice A N c) := X_7.out.k.cell 1
          have z_X1 := X_7.out.k.frozen 1
          have r_X2 : v7.cell? ⟨gx, 2, none⟩ = some (.slice B m d) := X_7.out.k.cell 2
          have z_X2 := X_7.out.k.frozen 2
          have r_X3 : v7.cell? ⟨gx, 3, none⟩ = some (.int .i64 t0) := X_7.out.k.cell 3
          have z_X3 := X_7.out.k.frozen 3
          have lt_Y := Y_7.out.k.lt
          have r_Y0 : v7.cell? ⟨gy, 0, none⟩ = some (.int .i64 4) := Y_7.out.k.cell 0
          have z_Y0 := Y_7.out.k.frozen 0
          have r_Y1 : v7.cell? ⟨gy, 1, none⟩ = some (.slice A' N c') := Y_7.out.k.cell 1
          have z_Y1 := Y_7.out.k.frozen 1
          have r_Y2 : v7.cell? ⟨gy, 2, none⟩ = some (.slice B' m' d') := Y_7.out.k.cell 2
          have z_Y2 := Y_7.out.k.frozen 2
          have r_Y3 : v7.cell? ⟨gy, 3, none⟩ = some (.int .i64 t') := Y_7.out.k.cell 3
          have z_Y3 := Y_7.out.k.frozen 3
          go_wp2_with fail
          clear lt_X r_X0 z_X0 r_X1 z_X1 r_X2 z_X2 r_X3 z_X3
          clear lt_Y r_Y0 z_Y0 r_Y1 z_Y1 r_Y2 z_Y2 r_Y3 z_Y3
          go_loopw [11] (fun iv wr => ∃ j : Nat, j ≤ m ∧ iv = .int .i64 (j : Nat) ∧ Hid (Below v7.heap.size v7 wr)) (fun iv _ => m - (intOf iv).toNat)
          case atStart => exact ⟨0, Nat.zero_le _, rfl, Lib.hid (Below.refl _ _)⟩
          case round =>
            obtain ⟨j, hj, rfl, HBL⟩ := hrel
            have X_8 := Lib.hid (X_7.out.below HBL.out)
            have Y_8 := Lib.hid (Y_7.out.below HBL.out)
            by_cases hjm : j < m
            · have hjm1 : (j : Int) < (m : Int) := by omega
              have hjm2 : (j : Int) < (m' : Int) := by omega
              obtain ⟨bx, ox, rfl, hbx, hcx⟩ := sl_gots X_8.out.Q.sl (by omega)
              obtain ⟨by_, oy, rfl, hby, hcy⟩ := sl_gots Y_8.out.Q.sl (by omega)
              obtain ⟨a0, a1, a2, a3⟩ := hcx j hjm
              obtain ⟨e0, e1, e2, e3⟩ := hcy j (by omega)
              have hgj := HGS.out j hjm
              rw [hgj] at e0 e1 e2 e3
              clear hcx hcy hgj
              generalize gl.getD j default = pk at a0 a1 a2 a3 e0 e1 e2 e3
              obtain ⟨xq, xx, xh, xv⟩ := pk
              simp only at a0 a1 a2 a3 e0 e1 e2 e3
              have lt_X := X_8.out.k.lt
              have r_X0 : wr.cell? ⟨gx, 0, none⟩ = some (.int .i64 4) := X_8.out.k.cell 0
              have z_X0 := X_8.out.k.frozen 0
              have r_X1 : wr.cell? ⟨gx, 1, none⟩ = some (.slice A N c) := X_8.out.k.cell 1
              have z_X1 := X_8.out.k.frozen 1
              have r_X2 : wr.cell? ⟨gx, 2, none⟩ = some (.slice (some ⟨bx, ox, none⟩) m d) := X_8.out.k.cell 2
              have z_X2 := X_8.out.k.frozen 2
              have r_X3 : wr.cell? ⟨gx, 3, none⟩ = some (.int .i64 t0) := X_8.out.k.cell 3
              have z_X3 := X_8.out.k.frozen 3
              have lt_Y := Y_8.out.k.lt
              have r_Y0 : wr.cell? ⟨gy, 0, none⟩ = some (.int .i64 4) := Y_8.out.k.cell 0
              have z_Y0 := Y_8.out.k.frozen 0
              have r_Y1 : wr.cell? ⟨gy, 1, none⟩ = some (.slice A' N c') := Y_8.out.k.cell 1
              have z_Y1 := Y_8.out.k.frozen 1
              have r_Y2 : wr.cell? ⟨gy, 2, none⟩ = some (.slice (some ⟨by_, oy, none⟩) m' d') := Y_8.out.k.cell 2
              have z_Y2 := Y_8.out.k.frozen 2
              have r_Y3 : wr.cell? ⟨gy, 3, none⟩ = some (.int .i64 t') := Y_8.out.k.cell 3
              have z_Y3 := Y_8.out.k.frozen 3
              go_wp2_with fail
              ((refine wp_region_ext (by kernel_rfl) (by kernel_rfl) ?_); (repeat (any_goals (first | go_big_quiet_step (fail) | (refine wpQuiet_step (fun K hK => ?_); go_simp; split <;> (refine hK _ ?_; clear hK K)) | quiet_step (fail)))); (all_goals (refine wpQuiet_nil ?_; rintro _ ⟨z, rfl⟩; have hb' := z.h; generalize z.w = w1 at hb' ⊢; clear z; (first | (have hb2 := bstep hb' hb hb.size; clear hb' hcb hfb hz1 hz2 hz3 hz4 hb; have hb := hb2; clear hb2) | (have hb := hb'; clear hb')); obtain ⟨hcb, hfb, hz1, hz2, hz3, hz4⟩ := bcell hb; (try simp only [World.size_alloc, World.size_setCell, World.size_drew, Nat.lt_add_one_iff, Nat.add_assoc, Nat.reduceAdd] at hz1 hz2 hz3 hz4))))
              all_goals go_wp2
              all_goals exact ⟨⟨j + 1, by omega, by go_num, Lib.hid (bthen HBL.out hb)⟩, by simp [intOf]; omega⟩
            · have hje : j = m := by omega
              subst hje
              have hjm1 : ¬ (j : Int) < (j : Int) := by omega
              have D_8 := Lib.hid (D_7.out.new HBL.out)
              have F_8 := Lib.hid (F_7.out.trans (HBL.out.mono (Nat.le_of_lt D_7.out.lt)))
              clear X_7 Y_7 D_7 F_7
              have hout := HH.out.2.2.2
              clear HGS
              rcases hout with ⟨hg, ht⟩ | ⟨h, v, hg, ht, hs, _⟩
              · have hmj : m' = j := by rw [← HLM.out, hg, HM.out]
                have heb : ((m' : Int) == (j : Int) + 1) = false := by simp; omega
                have hen : ¬ (m' : Int) = (j : Int) + 1 := by omega
                have HMJ := Lib.hid hmj
                have HGG := Lib.hid hg
                have HTT := Lib.hid ht
                clear hmj hg ht
                have lt_X := X_8.out.k.lt
                have r_X0 : wr.cell? ⟨gx, 0, none⟩ = some (.int .i64 4) := X_8.out.k.cell 0
                have z_X0 := X_8.out.k.frozen 0
                have r_X1 : wr.cell? ⟨gx, 1, none⟩ = some (.slice A N c) := X_8.out.k.cell 1
                have z_X1 := X_8.out.k.frozen 1
                have r_X2 : wr.cell? ⟨gx, 2, none⟩ = some (.slice B j d) := X_8.out.k.cell 2
                have z_X2 := X_8.out.k.frozen 2
                have r_X3 : wr.cell? ⟨gx, 3, none⟩ = some (.int .i64 t0) := X_8.out.k.cell 3
                have z_X3 := X_8.out.k.frozen 3
                have lt_Y := Y_8.out.k.lt
                have r_Y0 : wr.cell? ⟨gy, 0, none⟩ = some (.int .i64 4) := Y_8.out.k.cell 0
                have z_Y0 := Y_8.out.k.frozen 0
                have r_Y1 : wr.cell? ⟨gy, 1, none⟩ = some (.slice A' N c') := Y_8.out.k.cell 1
                have z_Y1 := Y_8.out.k.frozen 1
                have r_Y2 : wr.cell? ⟨gy, 2, none⟩ = some (.slice B' m' d') := Y_8.out.k.cell 2
                have z_Y2 := Y_8.out.k.frozen 2
                have r_Y3 : wr.cell? ⟨gy, 3, none⟩ = some (.int .i64 t') := Y_8.out.k.cell 3
                have z_Y3 := Y_8.out.k.frozen 3
                go_wp2_with fail
                go_roundg (23 - k)
                case measure => omega
                case rel => exact ⟨k + 1, A', c', B', m', d', t', gl', by omega, by omega, by go_num, HBT, ht2, HLM, Lib.hid (CB.put X_8.out Y_8.out.P Y_8.out.Q HNA.out HNB.out), Lib.hid (D_8.out.far4 X_8.out.hp _ _ _ _), Lib.hid (below4 F_8.out (Nat.le_of_lt X_8.out.hp) _ _ _ _)⟩
              · have hmj : m' = j + 1 := by rw [← HLM.out, hg, List.length_append, HM.out]; rfl
                have hgm : gl'.getD j default = ⟨sq2, ix2, h, v⟩ := by rw [hg, ← HM.out]; exact getD_snoc_eq _ _
                have hsj : sq2 = (j : Int) + 1 := by rw [hs, HM.out]
                obtain ⟨by_, oy, rfl, hby, hcy⟩ := sl_gots Y_8.out.Q.sl (by omega)
                obtain ⟨e0, e1, e2, e3⟩ := hcy j (by omega)
                rw [hgm] at e0 e1 e2 e3
                simp only at e0 e1 e2 e3
                clear hcy hgm hs
                have heb : ((m' : Int) == (j : Int) + 1) = true := by simp; omega
                have hjm2 : (j : Int) < (m' : Int) := by omega
                have hen : (m' : Int) = (j : Int) + 1 := by omega
                have hsn : (sq2 != (j : Int) + 1) = false := by simp [hsj]
                have htn : (t' != ix2) = false := by simp [ht]
                have HGG := Lib.hid hg
                have HTT := Lib.hid ht
                have HSJ := Lib.hid hsj
                have HEN := Lib.hid hen
                have HMJ := Lib.hid hmj
                clear hmj hg ht hsj hen
                have lt_X := X_8.out.k.lt
                have r_X0 : wr.cell? ⟨gx, 0, none⟩ = some (.int .i64 4) := X_8.out.k.cell 0
                have z_X0 := X_8.out.k.frozen 0
                have r_X1 : wr.cell? ⟨gx, 1, none⟩ = some (.slice A N c) := X_8.out.k.cell 1
                have z_X1 := X_8.out.k.frozen 1
                have r_X2 : wr.cell? ⟨gx, 2, none⟩ = some (.slice B j d) := X_8.out.k.cell 2
                have z_X2 := X_8.out.k.frozen 2
                have r_X3 : wr.cell? ⟨gx, 3, none⟩ = some (.int .i64 t0) := X_8.out.k.cell 3
                have z_X3 := X_8.out.k.frozen 3
                have lt_Y := Y_8.out.k.lt
                have r_Y0 : wr.cell? ⟨gy, 0, none⟩ = some (.int .i64 4) := Y_8.out.k.cell 0
                have z_Y0 := Y_8.out.k.frozen 0
                have r_Y1 : wr.cell? ⟨gy, 1, none⟩ = some (.slice A' N c') := Y_8.out.k.cell 1
                have z_Y1 := Y_8.out.k.frozen 1
                have r_Y2 : wr.cell? ⟨gy, 2, none⟩ = some (.slice (some ⟨by_, oy, none⟩) m' d') := Y_8.out.k.cell 2
                have z_Y2 := Y_8.out.k.frozen 2
                have r_Y3 : wr.cell? ⟨gy, 3, none⟩ = some (.int .i64 t') := Y_8.out.k.cell 3
                have z_Y3 := Y_8.out.k.frozen 3
                go_wp2_with fail
                go_roundg (23 - k)
                case measure => omega
                case rel => exact ⟨k + 1, A', c', some ⟨by_, oy, none⟩, m', d', t', gl', by omega, by omega, by go_num, HBT, ht2, HLM, Lib.hid (CB.put X_8.out Y_8.out.P Y_8.out.Q HNA.out HNB.out), Lib.hid (D_8.out.far4 X_8.out.hp _ _ _ _), Lib.hid (below4 F_8.out (Nat.le_of_lt X_8.out.hp) _ _ _ _)⟩
    · have hk24 : k = 24 := by omega
      subst hk24
      have hmN2 : N ≤ maxLen ∧ m ≤ maxLen := by unfold maxLen; omega
      have ec : ∀ v, Sl v 7 A N (WT wl) → Sl v 4 B m (GT gl) → Calls Try.prog 19 #[.agg #[.int .i64 4, .slice A N c, .slice B m d, .int .i64 t0]] v fun e' w' => e' = .returned (.bool true) ∧ Below v.heap.size v w' := by
        intro v h1 h2
        have h := specClientOk_any A N c B m d 4 t0 wl gl v h1 h2 HC.out.2 HM.out hmN2.1 hmN2.2
        rw [HB.out] at h
        exact h
      obtain ⟨L9, hL9, hLm⟩ : ∃ x, (acksL 4 wl gl t0).length / 4 = x ∧ x ≤ m := ⟨_, rfl, by rw [← HM.out]; exact acks_short⟩
      have ea : ∀ v, Sl v 7 A N (WT wl) → Sl v 4 B m (GT gl) → Calls Try.prog 34 #[.agg #[.int .i64 4, .slice A N c, .slice B m d, .int .i64 t0]] v fun e' w' => (∃ A' c', e' = .returned (.slice A' L9 c')) ∧ Below v.heap.size v w' := by
        intro v h1 h2
        refine (acksOf_any A N c B m d 4 t0 wl gl v h1 h2 HC.out.2 HM.out hmN2.1 hmN2.2).mono ?_
        rintro e w' ⟨A', c', rfl, _, hb⟩
        rw [hL9]
        exact ⟨⟨A', c', rfl⟩, hb⟩
      have EC := Lib.hid ec
      have EA := Lib.hid ea
      clear ec ea hL9
      have hLm1 : (L9 : Int) ≤ (m : Int) := by omega
      have hLd : decide ((L9 : Int) ≤ (m : Int)) = true := decide_eq_true hLm1
      have lp := HD.out.lt
      have hlt' : ¬ (24 : Int) < 24 := by omega
      have lt_X := HX.out.k.lt
      have r_X0 : wr.cell? ⟨gx, 0, none⟩ = some (.int .i64 4) := HX.out.k.cell 0
      have z_X0 := HX.out.k.frozen 0
      have r_X1 : wr.cell? ⟨gx, 1, none⟩ = some (.slice A N c) := HX.out.k.cell 1
      have z_X1 := HX.out.k.frozen 1
      have r_X2 : wr.cell? ⟨gx, 2, none⟩ = some (.slice B m d) := HX.out.k.cell 2
      have z_X2 := HX.out.k.frozen 2
      have r_X3 : wr.cell? ⟨gx, 3, none⟩ = some (.int .i64 t0) := HX.out.k.cell 3
      have z_X3 := HX.out.k.frozen 3
      go_upto_region 29 with fail
      go_region_held_law (fun w' => w'.cell? ⟨gx, 0, none⟩ = some (.int .i64 4) ∧ w'.cell? ⟨gx, 1, none⟩ = some (.slice A N c) ∧ w'.cell? ⟨gx, 2, none⟩ = some (.slice B m d) ∧ w'.cell? ⟨gx, 3, none⟩ = some (.int .i64 t0)) (first | with_reducible exact CB.cells HX.out | with_reducible exact CB.cells_drew HX.out | with_reducible exact CB.cells X_1.out | with_reducible exact CB.cells_drew X_1.out | with_reducible exact CB.cells X_2.out | with_reducible exact CB.cells_drew X_2.out) (first | (go_at_call 19; refine (EC.out _ (by first | exact HX.out.P.sl | exact Sl.drew HX.out.P.sl) (by first | exact HX.out.Q.sl | exact Sl.drew HX.out.Q.sl)).mono ?_; rintro e v1 ⟨rfl, b1⟩; have b1 : Below wr.heap.size wr v1 := ⟨b1.os, b1.tape, b1.output, b1.size, b1.block⟩; have X_1 := Lib.hid (HX.out.below b1); have F_1 := Lib.hid (HF.out.trans (b1.mono (Nat.le_of_lt lp))); have l1 := Nat.lt_of_lt_of_le lp b1.size; clear b1; have kx0 : v1.cell? ⟨gx, 0, none⟩ = some (.int .i64 4) := X_1.out.k.cell 0; have kx1 : v1.cell? ⟨gx, 1, none⟩ = some (.slice A N c) := X_1.out.k.cell 1; have kx2 : v1.cell? ⟨gx, 2, none⟩ = some (.slice B m d) := X_1.out.k.cell 2; have kx3 : v1.cell? ⟨gx, 3, none⟩ = some (.int .i64 t0) := X_1.out.k.cell 3) | (go_at_call 34; refine (EA.out _ (by first | exact X_1.out.P.sl | exact Sl.drew X_1.out.P.sl) (by first | exact X_1.out.Q.sl | exact Sl.drew X_1.out.Q.sl)).mono ?_; rintro e v2 ⟨⟨A9, c9, rfl⟩, b2⟩; have b2 : Below v1.heap.size v1 v2 := ⟨b2.os, b2.tape, b2.output, b2.size, b2.block⟩; have X_2 := Lib.hid (X_1.out.below b2); have F_2 := Lib.hid (F_1.out.trans (b2.mono (Nat.le_of_lt l1))); clear b2; have ky0 : v2.cell? ⟨gx, 0, none⟩ = some (.int .i64 4) := X_2.out.k.cell 0; have ky1 : v2.cell? ⟨gx, 1, none⟩ = some (.slice A N c) := X_2.out.k.cell 1; have ky2 : v2.cell? ⟨gx, 2, none⟩ = some (.slice B m d) := X_2.out.k.cell 2; have ky3 : v2.cell? ⟨gx, 3, none⟩ = some (.int .i64 t0) := X_2.out.k.cell 3))
      all_goals
        go_wp2
        go_ret
        exact ⟨ret_bool (by simp [*]), by rw [← HP.out]; first | exact F_2.out | exact F_2.out.drew⟩
end Go.Proofs.Ytbcpcddmekoaeaa
