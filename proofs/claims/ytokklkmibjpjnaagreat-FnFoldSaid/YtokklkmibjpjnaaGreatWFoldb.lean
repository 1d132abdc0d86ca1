/- The walk of the law FnFold. -/
import Derived.Test.YtokklkmibjpjnaaGreatBd8
import Derived.Deep.DeepCutAuto
import Derived.Deep.RegionHeldLaw
namespace Go.Proofs.YtokklkmibjpjnaaGreat
set_option linter.unusedSimpArgs false
set_option linter.unusedVariables false
attribute [local go_sem] n_lt2 n_lt3 n_lt4 n_le2 n_le3
open Go.RowKit
attribute [local go_sem] Ext.cell Ext.frozen
theorem eqL_refl (a : List Int) : eqL a a = true := by simp [eqL]
theorem sameState_self {i0 t0 l0 l1 l2 : Int} {pl : List Pr} {ql : List Jb} (h : stateB i0 t0 l0 l1 l2 pl ql = true) : sameStateB i0 t0 l0 l1 l2 pl ql i0 t0 l0 l1 l2 pl ql = true := by
  have h1 := (stateB_all h).2.2.1
  have h2 := (stateB_all h).2.2.2.1
  unfold sameStateB samePairsB sameJobsB
  rw [h, h1, h2, eqL_refl, eqL_refl]
  simp
/-- In a region of calls: where the calls have come to. -/
theorem fb_st {a b c : World} (h1 : Below a.heap.size a b) (h2 : Below b.heap.size b c) : Below a.heap.size a c := bthen h1 h2
theorem hss_ {P : Program} {f : Nat} {args : Array Value} {w : World} {b : Bool} (h : Calls P f args w fun e' w' => e' = .returned (.bool b) ∧ Below w.heap.size w w') (hb : b = true) : Calls P f args w fun e' w' => e' = .returned (.bool true) ∧ Below w.heap.size w w' := by
  subst hb
  exact h
set_option maxRecDepth 100000 in
set_option maxHeartbeats 8000000 in
theorem law_Fold (A : Option Addr) (n cap : Nat) (bs : List Int) (w : World) (hS : SlB w A n bs) (hnc : n ≤ cap) (hcm : cap ≤ maxLen) :
    Calls Tryz.prog 5 #[.slice A n cap] w fun e' w' => e' = .returned (.bool true) ∧ Below w.heap.size w w' := by
  have hm0 : n ≤ maxLen := Nat.le_trans hnc hcm
  by_cases hbig : 4096 < n
  · have hd : decide (4096 < n) = true := decide_eq_true hbig
    have cb := big_any A n cap w hm0
    rw [hd] at cb
    clear hd hbig
    go_enter Tryz.func5, Tryz.ntmps5
    go_wp2_with fail
    refine cb.mono ?_
    rintro e w' ⟨rfl, rfl⟩
    go_wp2_with fail
    go_ret
    exact ⟨rfl, Below.refl _ _⟩
  have hd : decide (4096 < n) = false := decide_eq_false hbig
  have cb := big_any A n cap w hm0
  rw [hd] at cb
  have HSB := Lib.hid hS
  have hn4 : n ≤ 4096 := by omega
  clear hd hS hbig
  go_enter Tryz.func5, Tryz.ntmps5
  go_wp2_with fail
  refine cb.mono ?_
  rintro e w' ⟨rfl, rfl⟩
  clear cb
  go_wp2_with fail
  refine (roll_dc A n cap bs 17 w HSB.out hn4 (by omega)).mono ?_
  rintro e w1 ⟨rfl, D1, b1⟩
  clear HSB
  obtain ⟨p, hp⟩ : ∃ p, p = w.heap.size := ⟨_, rfl⟩
  rw [← hp] at D1 ⊢
  have F1 : Below p w w1 := by rw [hp]; exact b1
  have HP := Lib.hid hp
  clear b1 hp
  go_wp2_with fail
  refine (below_dc p 25 w1 D1 (by omega)).mono ?_
  rintro e w2 ⟨x, rfl, ⟨x0, x1⟩, D2, W2⟩
  have F2 : Below p w w2 := W2.below F1 (Nat.le_of_lt D1.lt) (fun a ha => by obtain rfl := Option.some.inj ha; exact Nat.le_refl _)
  clear D1 W2 F1
  go_wp2_with fail
  refine (w6List_any p x w2 D2 ⟨x0, by omega⟩).mono ?_
  rintro e w3 ⟨g3, n3, c3, l, rfl, hl, hn24, hg, R3, D3, W3⟩
  have F3 : Below p w w3 := W3.below F2 (Nat.le_of_lt D2.lt) (fun a ha => by obtain rfl := Option.some.inj ha; exact Nat.le_refl _)
  have hp2 := D2.lt
  have hp3 := D3.lt
  have T3 := R3.mono (show p + 1 ≤ _ from hp2)
  clear D2 W3 F2 R3
  have hw1 : IntKind.i64.wrap ((n3 : Int) + 1) = (n3 : Int) + 1 := by rw [IntKind.wrap_i64]; omega
  go_wp2_with fail
  refine (below_dc p ((n3 : Int) + 1) w3 D3 (by omega)).mono ?_
  rintro e w4 ⟨k, rfl, ⟨k0, k1⟩, D4, W4⟩
  have F4 : Below p w w4 := W4.below F3 (Nat.le_of_lt D3.lt) (fun a ha => by obtain rfl := Option.some.inj ha; exact Nat.le_refl _)
  have T4 := Lib.hid (rowd T3 W4 (Nat.lt_succ_self p))
  have hp4 := D4.lt
  clear D3 W4 F3 T3 D4 hw1
  obtain ⟨kk, rfl⟩ : ∃ kk : Nat, k = kk := ⟨k.toNat, by omega⟩
  have hkn : kk ≤ n3 := by omega
  obtain ⟨⟨fi, ft, fp, fq, fh, fe, fu⟩, hf⟩ : ∃ s, fold sta0 l = s := ⟨_, rfl⟩
  obtain ⟨⟨mi, mt, mp, mq, mh, me, mu⟩, hm⟩ : ∃ s, fold sta0 (l.take kk) = s := ⟨_, rfl⟩
  obtain ⟨g1, g2, g4⟩ := good_take hg kk
  rw [hm] at g2 g4
  rw [hf] at g4
  have hmi : mi = (kk : Int) := by
    have h1 := fold_i g1
    rw [hm] at h1
    have h2 : (l.take kk).length = kk := by rw [List.length_take]; omega
    rw [h2] at h1
    have h3 : sta0.i = 0 := rfl
    simp only at h1
    omega
  subst hmi
  have hfo : stateB fi ft fh fe fu fp fq = true := by
    have h1 := fold_ok sta0_ok hg
    rw [hf] at h1
    exact h1
  have hmo : staOk ⟨(kk : Int), mt, mp, mq, mh, me, mu⟩ = true := by
    have h1 := fold_ok sta0_ok g1
    rw [hm] at h1
    exact h1
  obtain ⟨fn, hfn⟩ : ∃ q, fp.length = q := ⟨_, rfl⟩
  obtain ⟨fm, hfm⟩ : ∃ q, fq.length = q := ⟨_, rfl⟩
  obtain ⟨mn, hmn⟩ : ∃ q, mp.length = q := ⟨_, rfl⟩
  obtain ⟨mm, hmm⟩ : ∃ q, mq.length = q := ⟨_, rfl⟩
  have hfl := stateB_lens hfo
  rw [hfn, hfm] at hfl
  have hssf := Lib.hid (sameState_self hfo)
  have HG := Lib.hid hg
  have HG1 := Lib.hid g1
  have HG2 := Lib.hid g2
  have HG4 := Lib.hid g4
  have HF := Lib.hid hf
  have HM := Lib.hid hm
  have HMO := Lib.hid hmo
  have HFN := Lib.hid hfn
  have HFM := Lib.hid hfm
  have HMN := Lib.hid hmn
  have HMM := Lib.hid hmm
  have HL := Lib.hid hl
  clear hg g1 g2 g4 hf hm hmo hfn hfm hmn hmm hl hfo
  go_wp2_with fail
  refine (newState_any w4).mono ?_
  rintro e w5 ⟨rfl, b5⟩
  have F5 := (show Below p w w5 from btr F4 (b5.mono (Nat.le_of_lt hp4)))
  have z5 := b5.size
  have T5 := Lib.hid (T4.out.below b5)
  clear T4 b5 F4
  go_wp2_with fail
  refine (w6Copy_any (some ⟨g3, 0, none⟩) n3 c3 l w5 T5.out.sl (by omega)).mono ?_
  rintro e w6 ⟨A6, c6, rfl, R6, b6⟩
  have F6 := (show Below p w w6 from btr F5 (b6.mono (by omega)))
  have z6 := b6.size
  have T6 := Lib.hid (T5.out.below b6)
  clear T5 b6 F5
  have cc := folded_good none 0 0 none 0 0 0 0 0 0 0 [] [] w6 (Sl.nil _ _ _) (Sl.nil _ _ _) rfl rfl (fun _ => ⟨rfl, rfl⟩) (fun _ => ⟨rfl, rfl⟩) A6 n3 c6 l R6.sl HL.out (by omega) sta0_ok HG.out fi ft fh fe fu fp fq fn fm HF HFN HFM
  go_wp2_with fail
  refine cc.mono ?_
  rintro e w7 ⟨A7, c7, B7, d7, rfl, R7, Q7, hap7, b7⟩
  clear cc R6
  have F7 := (show Below p w w7 from btr F6 (b7.mono (by omega)))
  have z7 := b7.size
  have T7 := Lib.hid (T6.out.below b7)
  clear T6 b7 F6
  go_upto_region 7 with fail
  obtain ⟨v0, hv0⟩ : ∃ x : World, x = (w7.alloc (.cells #[.int .i64 fi, .int .i64 ft, .slice A7 fn c7, .slice B7 fm d7, .int .i64 fh, .int .i64 fe, .int .i64 fu] 37)) := ⟨_, rfl⟩
  rw [← hv0]
  obtain ⟨g6, hg6⟩ : ∃ g, g = w7.heap.size := ⟨_, rfl⟩
  have K0 : Hid (Blk v0 g6 37 #[.int .i64 fi, .int .i64 ft, .slice A7 fn c7, .slice B7 fm d7, .int .i64 fh, .int .i64 fe, .int .i64 fu]) := by rw [hv0, hg6]; exact Lib.hid (Blk.new_at _ _ _ _ rfl)
  have b0 : Below w7.heap.size w7 v0 := by rw [hv0]; exact ((Below.refl _ _).alloc (Nat.le_refl _) _)
  have T0 := Lib.hid (T7.out.below b0)
  have P0 := Lib.hid ((R7.below b0).mono (show p + 1 ≤ _ by omega))
  have Q0 := Lib.hid ((Q7.below b0).mono (show p + 1 ≤ _ by omega))
  have F0 := Lib.hid (show Below p w v0 from btr F7 (b0.mono (by omega)))
  have z0 := b0.size
  try rw [← hg6]
  clear hv0 b0 T7 R7 Q7 F7 hg6 hap7
  have hci3 := T0.out.cap_le
  have hkc : kk ≤ c3 := by omega
  have lg6 := K0.out.lt
  have HS00 : staOk ⟨0, 0, [], [], 0, 0, 0⟩ = true := sta0_ok
  have HG10 : goodIn ⟨0, 0, [], [], 0, 0, 0⟩ (l.take kk) := HG1.out
  have HM0 : Hid (fold ⟨0, 0, [], [], 0, 0, 0⟩ (l.take kk) = ⟨(kk : Nat), mt, mp, mq, mh, me, mu⟩) := HM
  have S0 := Lib.hid (show Sl v0 9 (some ⟨g3, 0, none⟩) kk (EN (l.take kk)) by rw [EN_take]; exact sl_take T0.out.sl kk hkn)
  go_cut [8, 9] (fun sx bx wx => ∃ (g : Nat) (A8 : Option Addr) (c8 : Nat) (B8 : Option Addr) (d8 : Nat), sx = .pointer (some ⟨g, 0, none⟩) ∧ bx = .bool true ∧ v0.heap.size ≤ g ∧ Hid (Blk wx g 37 #[.int .i64 (kk : Nat), .int .i64 mt, .slice A8 mn c8, .slice B8 mm d8, .int .i64 mh, .int .i64 me, .int .i64 mu]) ∧ Hid (Row wx v0.heap.size 106 2 A8 mn c8 (PR mp)) ∧ Hid (Row wx v0.heap.size 71 5 B8 mm d8 (JB mq)) ∧ Hid (Below v0.heap.size v0 wx))
  case first =>
    have hS0 : ∀ b o, b < v0.heap.size → v0.cell? ⟨b, o, none⟩ = v0.cell? ⟨b, o, none⟩ := fun b o hb => rfl
    go_region_held_law (fun w' => ∀ b o, b < v0.heap.size → w'.cell? ⟨b, o, none⟩ = v0.cell? ⟨b, o, none⟩) (repeat' (first | with_reducible assumption | with_reducible exact Nat.le_refl _ | with_reducible exact hS0 | with_reducible refine hl_drew ?_ | with_reducible refine hl_alloc ?_ ?_ _ | with_reducible refine hl_set7 ?_ ?_ _ _ _ _ _ _ _)) (first | (go_at_call 21; (with_reducible refine (newState_any _).mono ?_); rintro e u1 ⟨rfl, b1_⟩; have G1 : Below v0.heap.size v0 u1 := (by first | with_reducible exact b1_ | with_reducible exact tb_dr b1_ | with_reducible exact tb_al b1_ | with_reducible exact tb_da b1_ | with_reducible exact tb_ad b1_); have E1 : Below v0.heap.size v0 u1 := G1; (first | (have KB : Blk u1 v0.heap.size 37 #[.int .i64 0, .int .i64 0, .slice none 0 0, .slice none 0 0, .int .i64 0, .int .i64 0, .int .i64 0] := by with_reducible exact t_below2 b1_ (Blk.new_at _ _ _ _ rfl)) | (have KB : Blk u1 v0.heap.size 37 #[.int .i64 0, .int .i64 0, .slice none 0 0, .slice none 0 0, .int .i64 0, .int .i64 0, .int .i64 0] := by with_reducible exact t_below2 b1_ (Blk.drew (Blk.new_at _ _ _ _ rfl))) | (have KB : Blk u1 v0.heap.size 37 #[.int .i64 0, .int .i64 0, .slice none 0 0, .slice none 0 0, .int .i64 0, .int .i64 0, .int .i64 0] := by with_reducible exact t_below2 b1_ (Blk.new_at _ _ _ _ (t_drew_size _))) | skip); (try (have lkb1 := KB.lt)); have y1_ := G1.size; have hS1 : ∀ b o, b < v0.heap.size → u1.cell? ⟨b, o, none⟩ = v0.cell? ⟨b, o, none⟩ := fun b o hb => E1.cell (p := ⟨b, o, none⟩) hb; have z1_ := E1.size; have S1 := S0.out.below E1) | (go_at_call 22; (with_reducible refine (w6Copy_any _ _ _ (l.take kk) _ (by first | with_reducible exact S1 | with_reducible exact Sl.drew S1 | with_reducible exact Sl.alloc S1 _ | with_reducible exact t9_da S1 | with_reducible exact t9_ad S1) (by omega)).mono ?_); rintro e u2 ⟨Ac, cc, rfl, Rc, b2_⟩; have G2 : Below u1.heap.size u1 u2 := (by first | with_reducible exact b2_ | with_reducible exact tb_dr b2_ | with_reducible exact tb_al b2_ | with_reducible exact tb_da b2_ | with_reducible exact tb_ad b2_); have E2 : Below v0.heap.size v0 u2 := bthen E1 G2; (first | (have KB := t_below2 G2 KB) | (have KB : Blk u2 u1.heap.size 37 #[.int .i64 0, .int .i64 0, .slice none 0 0, .slice none 0 0, .int .i64 0, .int .i64 0, .int .i64 0] := by with_reducible exact t_below2 b2_ (Blk.new_at _ _ _ _ rfl)) | (have KB : Blk u2 u1.heap.size 37 #[.int .i64 0, .int .i64 0, .slice none 0 0, .slice none 0 0, .int .i64 0, .int .i64 0, .int .i64 0] := by with_reducible exact t_below2 b2_ (Blk.drew (Blk.new_at _ _ _ _ rfl))) | (have KB : Blk u2 u1.heap.size 37 #[.int .i64 0, .int .i64 0, .slice none 0 0, .slice none 0 0, .int .i64 0, .int .i64 0, .int .i64 0] := by with_reducible exact t_below2 b2_ (Blk.new_at _ _ _ _ (t_drew_size _))) | skip); (try (have lkb2 := KB.lt)); have y2_ := G2.size; have hS2 : ∀ b o, b < v0.heap.size → u2.cell? ⟨b, o, none⟩ = v0.cell? ⟨b, o, none⟩ := fun b o hb => E2.cell (p := ⟨b, o, none⟩) hb; have z2_ := E2.size) | (go_at_call 20; (with_reducible refine (folded_good none 0 0 none 0 0 0 0 0 0 0 [] [] _ (Sl.nil _ _ _) (Sl.nil _ _ _) rfl rfl (fun _ => ⟨rfl, rfl⟩) (fun _ => ⟨rfl, rfl⟩) Ac kk cc (l.take kk) (by first | with_reducible exact Rc.sl | with_reducible exact Sl.drew Rc.sl | with_reducible exact Sl.alloc Rc.sl _ | with_reducible exact t9_da Rc.sl | with_reducible exact t9_ad Rc.sl) (by rw [List.length_take, HL.out]; omega) (by omega) HS00 HG10 (kk : Nat) mt mh me mu mp mq mn mm HM0 HMN HMM).mono ?_); rintro e u3 ⟨A8, c8, B8, d8, rfl, R6, R7, hap2, b3_⟩; have G3 : Below u2.heap.size u2 u3 := (by first | with_reducible exact b3_ | with_reducible exact tb_dr b3_ | with_reducible exact tb_al b3_ | with_reducible exact tb_da b3_ | with_reducible exact tb_ad b3_); have E3 : Below v0.heap.size v0 u3 := bthen E2 G3; (first | (have KB := t_below2 G3 KB) | (have KB : Blk u3 u2.heap.size 37 #[.int .i64 0, .int .i64 0, .slice none 0 0, .slice none 0 0, .int .i64 0, .int .i64 0, .int .i64 0] := by with_reducible exact t_below2 b3_ (Blk.new_at _ _ _ _ rfl)) | (have KB : Blk u3 u2.heap.size 37 #[.int .i64 0, .int .i64 0, .slice none 0 0, .slice none 0 0, .int .i64 0, .int .i64 0, .int .i64 0] := by with_reducible exact t_below2 b3_ (Blk.drew (Blk.new_at _ _ _ _ rfl))) | (have KB : Blk u3 u2.heap.size 37 #[.int .i64 0, .int .i64 0, .slice none 0 0, .slice none 0 0, .int .i64 0, .int .i64 0, .int .i64 0] := by with_reducible exact t_below2 b3_ (Blk.new_at _ _ _ _ (t_drew_size _))) | skip); (try (have lkb3 := KB.lt)); have y3_ := G3.size; have hS3 : ∀ b o, b < v0.heap.size → u3.cell? ⟨b, o, none⟩ = v0.cell? ⟨b, o, none⟩ := fun b o hb => E3.cell (p := ⟨b, o, none⟩) hb; have z3_ := E3.size; (try (have kb0 := KB.cell 0)); (try (have kf0 := KB.frozen 0)); (try (have kb1 := KB.cell 1)); (try (have kf1 := KB.frozen 1)); (try (have kb2 := KB.cell 2)); (try (have kf2 := KB.frozen 2)); (try (have kb3 := KB.cell 3)); (try (have kf3 := KB.frozen 3)); (try (have kb4 := KB.cell 4)); (try (have kf4 := KB.frozen 4)); (try (have kb5 := KB.cell 5)); (try (have kf5 := KB.frozen 5)); (try (have kb6 := KB.cell 6)); (try (have kf6 := KB.frozen 6)); (try (have kbl := KB.lt))))
    all_goals
      have gP := R6.ge
      have gQ := R7.ge
      have lP := R6.lt
      have lQ := R7.lt
      have sg := b3_.size
      (try simp only [t_size_alloc, ← t_drew_size] at sg)
      (try simp only [t_size_alloc, ← t_drew_size] at gP)
      (try simp only [t_size_alloc, ← t_drew_size] at gQ)
      have RP6 := R6.mono (show v0.heap.size ≤ _ from (by (try simp only [t_size_alloc, ← t_drew_size]); omega))
      have RQ6 := R7.mono (show v0.heap.size ≤ _ from (by (try simp only [t_size_alloc, ← t_drew_size]); omega))
      go_wp2_with fail
      go_meet
      first
        | (with_reducible refine ⟨u3.heap.size, A8, c8, B8, d8, rfl, rfl, ?_, ?_, ?_, ?_, ?_⟩
           · omega
           · exact Lib.hid (Blk.new_at _ _ _ _ rfl)
           · exact Lib.hid (RP6.alloc _)
           · exact Lib.hid (RQ6.alloc _)
           · exact Lib.hid (E3.alloc z3_ _))
        | (with_reducible refine ⟨v0.heap.size, A8, c8, B8, d8, rfl, rfl, ?_, ?_, ?_, ?_, ?_⟩
           · omega
           · exact Lib.hid (blk_set7 KB _ _ _ _ _ _ _)
           · exact Lib.hid (row_far7 RP6 (fun a ha => by have h0 := gP a ha; omega) _ _ _ _ _ _ _)
           · exact Lib.hid (row_far7 RQ6 (fun a ha => by have h0 := gQ a ha; omega) _ _ _ _ _ _ _)
           · exact Lib.hid (below_far7 E3 (by omega) _ _ _ _ _ _ _))
        | (with_reducible refine ⟨u1.heap.size, A8, c8, B8, d8, rfl, rfl, ?_, ?_, ?_, ?_, ?_⟩
           · omega
           · exact Lib.hid (blk_set7 KB _ _ _ _ _ _ _)
           · exact Lib.hid (row_far7 RP6 (fun a ha => by have h0 := gP a ha; omega) _ _ _ _ _ _ _)
           · exact Lib.hid (row_far7 RQ6 (fun a ha => by have h0 := gQ a ha; omega) _ _ _ _ _ _ _)
           · exact Lib.hid (below_far7 E3 (by omega) _ _ _ _ _ _ _))
        | (with_reducible refine ⟨u2.heap.size, A8, c8, B8, d8, rfl, rfl, ?_, ?_, ?_, ?_, ?_⟩
           · omega
           · exact Lib.hid (blk_set7 KB _ _ _ _ _ _ _)
           · exact Lib.hid (row_far7 RP6 (fun a ha => by have h0 := gP a ha; omega) _ _ _ _ _ _ _)
           · exact Lib.hid (row_far7 RQ6 (fun a ha => by have h0 := gQ a ha; omega) _ _ _ _ _ _ _)
           · exact Lib.hid (below_far7 E3 (by omega) _ _ _ _ _ _ _))

  case rest =>
    obtain ⟨g8, A8, c8, B8, d8, rfl, rfl, hg8, K8, P8, Q8, E8⟩ := hcut
    rename World => v1
    have z1 := E8.out.size
    have T1 := Lib.hid (T0.out.below E8.out)
    have P1 := Lib.hid (P0.out.below E8.out)
    have Q1 := Lib.hid (Q0.out.below E8.out)
    have K1 := Lib.hid (K0.out.below E8.out)
    have F1 := Lib.hid (show Below p w v1 from btr F0.out (E8.out.mono (by omega)))
    clear T0 P0 Q0 K0 F0 E8 S0 HS00 HG10 HM0
    have lt_m := K8.out.lt
    obtain ⟨r_m0, r_m1, r_m2, r_m3, r_m4, r_m5, r_m6⟩ := bc7 K8.out
    go_upto_region 8 with fail
    go_cut [10, 11] (fun sx bx wx => ∃ (g : Nat) (A9 : Option Addr) (c9 : Nat) (B9 : Option Addr) (d9 : Nat), sx = .pointer (some ⟨g, 0, none⟩) ∧ bx = .bool true ∧ v1.heap.size ≤ g ∧ Hid (Blk wx g 37 #[.int .i64 fi, .int .i64 ft, .slice A9 fn c9, .slice B9 fm d9, .int .i64 fh, .int .i64 fe, .int .i64 fu]) ∧ Hid (Row wx v1.heap.size 106 2 A9 fn c9 (PR fp)) ∧ Hid (Row wx v1.heap.size 71 5 B9 fm d9 (JB fq)) ∧ Hid (Below v1.heap.size v1 wx))
    case first =>
      by_cases hkc3 : kk = c3
      · subst hkc3
        have hn0 : n3 - kk = 0 := by omega
        have S1 := Lib.hid (show Sl v1 9 (some ⟨g3, 0, none⟩) 0 (EN (l.drop kk)) by rw [show l.drop kk = [] from List.drop_eq_nil_of_le (by rw [HL.out]; omega)]; exact Sl.nil _ _ _)
        have hS0 : ∀ b o, b < v1.heap.size → v1.cell? ⟨b, o, none⟩ = v1.cell? ⟨b, o, none⟩ := fun b o hb => rfl
        go_region_held_law (fun w' => ∀ b o, b < v1.heap.size → w'.cell? ⟨b, o, none⟩ = v1.cell? ⟨b, o, none⟩) (repeat' (first | with_reducible assumption | with_reducible exact Nat.le_refl _ | with_reducible exact hS0 | with_reducible refine hl_drew ?_ | with_reducible refine hl_alloc ?_ ?_ _ | with_reducible refine hl_set7 ?_ ?_ _ _ _ _ _ _ _)) (first | (go_at_call 22; (with_reducible refine (w6Copy_any _ _ _ (l.drop kk) _ (by first | with_reducible exact S1.out | with_reducible exact Sl.drew S1.out | with_reducible exact Sl.alloc S1.out _ | with_reducible exact t9_da S1.out | with_reducible exact t9_ad S1.out) (by omega)).mono ?_); rintro e u1 ⟨Ac, cc, rfl, Rc, b1_⟩; have G1 : Below v1.heap.size v1 u1 := (by first | with_reducible exact b1_ | with_reducible exact tb_dr b1_ | with_reducible exact tb_al b1_ | with_reducible exact tb_da b1_ | with_reducible exact tb_ad b1_); have E1 : Below v1.heap.size v1 u1 := G1; (first | (have KB : Blk u1 v1.heap.size 37 #[.int .i64 0, .int .i64 0, .slice none 0 0, .slice none 0 0, .int .i64 0, .int .i64 0, .int .i64 0] := by with_reducible exact t_below2 b1_ (Blk.new_at _ _ _ _ rfl)) | (have KB : Blk u1 v1.heap.size 37 #[.int .i64 0, .int .i64 0, .slice none 0 0, .slice none 0 0, .int .i64 0, .int .i64 0, .int .i64 0] := by with_reducible exact t_below2 b1_ (Blk.drew (Blk.new_at _ _ _ _ rfl))) | (have KB : Blk u1 v1.heap.size 37 #[.int .i64 0, .int .i64 0, .slice none 0 0, .slice none 0 0, .int .i64 0, .int .i64 0, .int .i64 0] := by with_reducible exact t_below2 b1_ (Blk.new_at _ _ _ _ (t_drew_size _))) | skip); (try (have lkb1 := KB.lt)); have y1_ := G1.size; have hS1 : ∀ b o, b < v1.heap.size → u1.cell? ⟨b, o, none⟩ = v1.cell? ⟨b, o, none⟩ := fun b o hb => E1.cell (p := ⟨b, o, none⟩) hb; have z1_ := E1.size; have P2 := P8.out.sl.below E1; have Q2 := Q8.out.sl.below E1) | (go_at_call 20; (with_reducible refine (folded_good A8 mn c8 B8 mm d8 (kk : Nat) mt mh me mu mp mq _ (by first | with_reducible exact P2 | with_reducible exact Sl.drew P2 | with_reducible exact Sl.alloc P2 _ | with_reducible exact t9_da P2 | with_reducible exact t9_ad P2) (by first | with_reducible exact Q2 | with_reducible exact Sl.drew Q2 | with_reducible exact Sl.alloc Q2 _ | with_reducible exact t9_da Q2 | with_reducible exact t9_ad Q2) HMN.out HMM.out (row_nil P8.out) (row_nil Q8.out) Ac 0 cc (l.drop kk) (by first | with_reducible exact Rc.sl | with_reducible exact Sl.drew Rc.sl | with_reducible exact Sl.alloc Rc.sl _ | with_reducible exact t9_da Rc.sl | with_reducible exact t9_ad Rc.sl) (by rw [List.length_drop, HL.out]; try omega) (by omega) HMO.out HG2.out fi ft fh fe fu fp fq fn fm HG4 HFN HFM).mono ?_); rintro e u2 ⟨A9, c9, B9, d9, rfl, R6, R7, hap2, b2_⟩; have G2 : Below u1.heap.size u1 u2 := (by first | with_reducible exact b2_ | with_reducible exact tb_dr b2_ | with_reducible exact tb_al b2_ | with_reducible exact tb_da b2_ | with_reducible exact tb_ad b2_); have E2 : Below v1.heap.size v1 u2 := bthen E1 G2; (first | (have KB := t_below2 G2 KB) | (have KB : Blk u2 u1.heap.size 37 #[.int .i64 0, .int .i64 0, .slice none 0 0, .slice none 0 0, .int .i64 0, .int .i64 0, .int .i64 0] := by with_reducible exact t_below2 b2_ (Blk.new_at _ _ _ _ rfl)) | (have KB : Blk u2 u1.heap.size 37 #[.int .i64 0, .int .i64 0, .slice none 0 0, .slice none 0 0, .int .i64 0, .int .i64 0, .int .i64 0] := by with_reducible exact t_below2 b2_ (Blk.drew (Blk.new_at _ _ _ _ rfl))) | (have KB : Blk u2 u1.heap.size 37 #[.int .i64 0, .int .i64 0, .slice none 0 0, .slice none 0 0, .int .i64 0, .int .i64 0, .int .i64 0] := by with_reducible exact t_below2 b2_ (Blk.new_at _ _ _ _ (t_drew_size _))) | skip); (try (have lkb2 := KB.lt)); have y2_ := G2.size; have hS2 : ∀ b o, b < v1.heap.size → u2.cell? ⟨b, o, none⟩ = v1.cell? ⟨b, o, none⟩ := fun b o hb => E2.cell (p := ⟨b, o, none⟩) hb; have z2_ := E2.size; (try (have kb0 := KB.cell 0)); (try (have kf0 := KB.frozen 0)); (try (have kb1 := KB.cell 1)); (try (have kf1 := KB.frozen 1)); (try (have kb2 := KB.cell 2)); (try (have kf2 := KB.frozen 2)); (try (have kb3 := KB.cell 3)); (try (have kf3 := KB.frozen 3)); (try (have kb4 := KB.cell 4)); (try (have kf4 := KB.frozen 4)); (try (have kb5 := KB.cell 5)); (try (have kf5 := KB.frozen 5)); (try (have kb6 := KB.cell 6)); (try (have kf6 := KB.frozen 6)); (try (have kbl := KB.lt))))
        all_goals
          have gP := R6.ge
          have gQ := R7.ge
          have lP := R6.lt
          have lQ := R7.lt
          have sg := b2_.size
          (try simp only [t_size_alloc, ← t_drew_size] at sg)
          (try simp only [t_size_alloc, ← t_drew_size] at gP)
          (try simp only [t_size_alloc, ← t_drew_size] at gQ)
          have RP6 := R6.mono (show v1.heap.size ≤ _ from (by (try simp only [t_size_alloc, ← t_drew_size]); omega))
          have RQ6 := R7.mono (show v1.heap.size ≤ _ from (by (try simp only [t_size_alloc, ← t_drew_size]); omega))
          go_wp2_with fail
          go_meet
          first
            | (with_reducible refine ⟨u2.heap.size, A9, c9, B9, d9, rfl, rfl, ?_, ?_, ?_, ?_, ?_⟩
               · omega
               · exact Lib.hid (Blk.new_at _ _ _ _ rfl)
               · exact Lib.hid (RP6.alloc _)
               · exact Lib.hid (RQ6.alloc _)
               · exact Lib.hid (E2.alloc z2_ _))
            | (with_reducible refine ⟨v1.heap.size, A9, c9, B9, d9, rfl, rfl, ?_, ?_, ?_, ?_, ?_⟩
               · omega
               · exact Lib.hid (blk_set7 KB _ _ _ _ _ _ _)
               · exact Lib.hid (row_far7 RP6 (fun a ha => by have h0 := gP a ha; omega) _ _ _ _ _ _ _)
               · exact Lib.hid (row_far7 RQ6 (fun a ha => by have h0 := gQ a ha; omega) _ _ _ _ _ _ _)
               · exact Lib.hid (below_far7 E2 (by omega) _ _ _ _ _ _ _))
            | (with_reducible refine ⟨u1.heap.size, A9, c9, B9, d9, rfl, rfl, ?_, ?_, ?_, ?_, ?_⟩
               · omega
               · exact Lib.hid (blk_set7 KB _ _ _ _ _ _ _)
               · exact Lib.hid (row_far7 RP6 (fun a ha => by have h0 := gP a ha; omega) _ _ _ _ _ _ _)
               · exact Lib.hid (row_far7 RQ6 (fun a ha => by have h0 := gQ a ha; omega) _ _ _ _ _ _ _)
               · exact Lib.hid (below_far7 E2 (by omega) _ _ _ _ _ _ _))

      · have hkc4 : kk < c3 := by omega
        have S1 := Lib.hid (show Sl v1 9 (some ⟨g3, 0 + kk * 9, none⟩) (n3 - kk) (EN (l.drop kk)) by rw [EN_drop]; exact sl_drop T1.out.sl kk hkn)
        rw [Nat.zero_add] at S1
        have hS0 : ∀ b o, b < v1.heap.size → v1.cell? ⟨b, o, none⟩ = v1.cell? ⟨b, o, none⟩ := fun b o hb => rfl
        go_region_held_law (fun w' => ∀ b o, b < v1.heap.size → w'.cell? ⟨b, o, none⟩ = v1.cell? ⟨b, o, none⟩) (repeat' (first | with_reducible assumption | with_reducible exact Nat.le_refl _ | with_reducible exact hS0 | with_reducible refine hl_drew ?_ | with_reducible refine hl_alloc ?_ ?_ _ | with_reducible refine hl_set7 ?_ ?_ _ _ _ _ _ _ _)) (first | (go_at_call 22; (with_reducible refine (w6Copy_any _ _ _ (l.drop kk) _ (by first | with_reducible exact S1.out | with_reducible exact Sl.drew S1.out | with_reducible exact Sl.alloc S1.out _ | with_reducible exact t9_da S1.out | with_reducible exact t9_ad S1.out) (by omega)).mono ?_); rintro e u1 ⟨Ac, cc, rfl, Rc, b1_⟩; have G1 : Below v1.heap.size v1 u1 := (by first | with_reducible exact b1_ | with_reducible exact tb_dr b1_ | with_reducible exact tb_al b1_ | with_reducible exact tb_da b1_ | with_reducible exact tb_ad b1_); have E1 : Below v1.heap.size v1 u1 := G1; (first | (have KB : Blk u1 v1.heap.size 37 #[.int .i64 0, .int .i64 0, .slice none 0 0, .slice none 0 0, .int .i64 0, .int .i64 0, .int .i64 0] := by with_reducible exact t_below2 b1_ (Blk.new_at _ _ _ _ rfl)) | (have KB : Blk u1 v1.heap.size 37 #[.int .i64 0, .int .i64 0, .slice none 0 0, .slice none 0 0, .int .i64 0, .int .i64 0, .int .i64 0] := by with_reducible exact t_below2 b1_ (Blk.drew (Blk.new_at _ _ _ _ rfl))) | (have KB : Blk u1 v1.heap.size 37 #[.int .i64 0, .int .i64 0, .slice none 0 0, .slice none 0 0, .int .i64 0, .int .i64 0, .int .i64 0] := by with_reducible exact t_below2 b1_ (Blk.new_at _ _ _ _ (t_drew_size _))) | skip); (try (have lkb1 := KB.lt)); have y1_ := G1.size; have hS1 : ∀ b o, b < v1.heap.size → u1.cell? ⟨b, o, none⟩ = v1.cell? ⟨b, o, none⟩ := fun b o hb => E1.cell (p := ⟨b, o, none⟩) hb; have z1_ := E1.size; have P2 := P8.out.sl.below E1; have Q2 := Q8.out.sl.below E1) | (go_at_call 20; (with_reducible refine (folded_good A8 mn c8 B8 mm d8 (kk : Nat) mt mh me mu mp mq _ (by first | with_reducible exact P2 | with_reducible exact Sl.drew P2 | with_reducible exact Sl.alloc P2 _ | with_reducible exact t9_da P2 | with_reducible exact t9_ad P2) (by first | with_reducible exact Q2 | with_reducible exact Sl.drew Q2 | with_reducible exact Sl.alloc Q2 _ | with_reducible exact t9_da Q2 | with_reducible exact t9_ad Q2) HMN.out HMM.out (row_nil P8.out) (row_nil Q8.out) Ac (n3 - kk) cc (l.drop kk) (by first | with_reducible exact Rc.sl | with_reducible exact Sl.drew Rc.sl | with_reducible exact Sl.alloc Rc.sl _ | with_reducible exact t9_da Rc.sl | with_reducible exact t9_ad Rc.sl) (by rw [List.length_drop, HL.out]; try omega) (by omega) HMO.out HG2.out fi ft fh fe fu fp fq fn fm HG4 HFN HFM).mono ?_); rintro e u2 ⟨A9, c9, B9, d9, rfl, R6, R7, hap2, b2_⟩; have G2 : Below u1.heap.size u1 u2 := (by first | with_reducible exact b2_ | with_reducible exact tb_dr b2_ | with_reducible exact tb_al b2_ | with_reducible exact tb_da b2_ | with_reducible exact tb_ad b2_); have E2 : Below v1.heap.size v1 u2 := bthen E1 G2; (first | (have KB := t_below2 G2 KB) | (have KB : Blk u2 u1.heap.size 37 #[.int .i64 0, .int .i64 0, .slice none 0 0, .slice none 0 0, .int .i64 0, .int .i64 0, .int .i64 0] := by with_reducible exact t_below2 b2_ (Blk.new_at _ _ _ _ rfl)) | (have KB : Blk u2 u1.heap.size 37 #[.int .i64 0, .int .i64 0, .slice none 0 0, .slice none 0 0, .int .i64 0, .int .i64 0, .int .i64 0] := by with_reducible exact t_below2 b2_ (Blk.drew (Blk.new_at _ _ _ _ rfl))) | (have KB : Blk u2 u1.heap.size 37 #[.int .i64 0, .int .i64 0, .slice none 0 0, .slice none 0 0, .int .i64 0, .int .i64 0, .int .i64 0] := by with_reducible exact t_below2 b2_ (Blk.new_at _ _ _ _ (t_drew_size _))) | skip); (try (have lkb2 := KB.lt)); have y2_ := G2.size; have hS2 : ∀ b o, b < v1.heap.size → u2.cell? ⟨b, o, none⟩ = v1.cell? ⟨b, o, none⟩ := fun b o hb => E2.cell (p := ⟨b, o, none⟩) hb; have z2_ := E2.size; (try (have kb0 := KB.cell 0)); (try (have kf0 := KB.frozen 0)); (try (have kb1 := KB.cell 1)); (try (have kf1 := KB.frozen 1)); (try (have kb2 := KB.cell 2)); (try (have kf2 := KB.frozen 2)); (try (have kb3 := KB.cell 3)); (try (have kf3 := KB.frozen 3)); (try (have kb4 := KB.cell 4)); (try (have kf4 := KB.frozen 4)); (try (have kb5 := KB.cell 5)); (try (have kf5 := KB.frozen 5)); (try (have kb6 := KB.cell 6)); (try (have kf6 := KB.frozen 6)); (try (have kbl := KB.lt))))
        all_goals
          have gP := R6.ge
          have gQ := R7.ge
          have lP := R6.lt
          have lQ := R7.lt
          have sg := b2_.size
          (try simp only [t_size_alloc, ← t_drew_size] at sg)
          (try simp only [t_size_alloc, ← t_drew_size] at gP)
          (try simp only [t_size_alloc, ← t_drew_size] at gQ)
          have RP6 := R6.mono (show v1.heap.size ≤ _ from (by (try simp only [t_size_alloc, ← t_drew_size]); omega))
          have RQ6 := R7.mono (show v1.heap.size ≤ _ from (by (try simp only [t_size_alloc, ← t_drew_size]); omega))
          go_wp2_with fail
          go_meet
          first
            | (with_reducible refine ⟨u2.heap.size, A9, c9, B9, d9, rfl, rfl, ?_, ?_, ?_, ?_, ?_⟩
               · omega
               · exact Lib.hid (Blk.new_at _ _ _ _ rfl)
               · exact Lib.hid (RP6.alloc _)
               · exact Lib.hid (RQ6.alloc _)
               · exact Lib.hid (E2.alloc z2_ _))
            | (with_reducible refine ⟨v1.heap.size, A9, c9, B9, d9, rfl, rfl, ?_, ?_, ?_, ?_, ?_⟩
               · omega
               · exact Lib.hid (blk_set7 KB _ _ _ _ _ _ _)
               · exact Lib.hid (row_far7 RP6 (fun a ha => by have h0 := gP a ha; omega) _ _ _ _ _ _ _)
               · exact Lib.hid (row_far7 RQ6 (fun a ha => by have h0 := gQ a ha; omega) _ _ _ _ _ _ _)
               · exact Lib.hid (below_far7 E2 (by omega) _ _ _ _ _ _ _))
            | (with_reducible refine ⟨u1.heap.size, A9, c9, B9, d9, rfl, rfl, ?_, ?_, ?_, ?_, ?_⟩
               · omega
               · exact Lib.hid (blk_set7 KB _ _ _ _ _ _ _)
               · exact Lib.hid (row_far7 RP6 (fun a ha => by have h0 := gP a ha; omega) _ _ _ _ _ _ _)
               · exact Lib.hid (row_far7 RQ6 (fun a ha => by have h0 := gQ a ha; omega) _ _ _ _ _ _ _)
               · exact Lib.hid (below_far7 E2 (by omega) _ _ _ _ _ _ _))


    case rest =>
      obtain ⟨g10, A9, c9, B9, d9, rfl, rfl, hg10, K10, P9, Q9, E9⟩ := hcut
      rename World => v2
      clear lt_m r_m0 r_m1 r_m2 r_m3 r_m4 r_m5 r_m6
      have z2 := E9.out.size
      have l8 := K8.out.lt
      have l6 := K1.out.lt
      have T2 := Lib.hid (T1.out.below E9.out)
      have P2 := Lib.hid (P1.out.below E9.out)
      have Q2 := Lib.hid (Q1.out.below E9.out)
      have K2 := Lib.hid (K1.out.below E9.out)
      have K3 := Lib.hid (K8.out.below E9.out)
      have F2 := Lib.hid (show Below p w v2 from btr F1.out (E9.out.mono (by omega)))
      clear T1 P1 Q1 K1 F1 E9 K8 P8 Q8
      have lt_a := K2.out.lt
      obtain ⟨r_a0, r_a1, r_a2, r_a3, r_a4, r_a5, r_a6⟩ := bc7 K2.out
      have lt_z := K10.out.lt
      obtain ⟨r_z0, r_z1, r_z2, r_z3, r_z4, r_z5, r_z6⟩ := bc7 K10.out
      have lt_m := K3.out.lt
      have r_m0 : v2.cell? ⟨g8, 0, none⟩ = some (.int .i64 (kk : Nat)) := K3.out.cell 0
      have hfm0 : fn ≤ maxLen := by unfold maxLen; omega
      have hfm1 : fm ≤ maxLen := by unfold maxLen; omega
      go_upto_region 9 with fail
      have hS0 : ∀ b o, b < v2.heap.size → v2.cell? ⟨b, o, none⟩ = v2.cell? ⟨b, o, none⟩ := fun b o hb => rfl
      go_region_held_law (fun w' => ∀ b o, b < v2.heap.size → w'.cell? ⟨b, o, none⟩ = v2.cell? ⟨b, o, none⟩) (repeat' (first | with_reducible assumption | with_reducible exact Nat.le_refl _ | with_reducible exact hS0 | with_reducible refine hl_drew ?_ | with_reducible refine hl_alloc ?_ ?_ _ | with_reducible refine hl_set7 ?_ ?_ _ _ _ _ _ _ _)) (first | (go_at_call 24; (with_reducible refine (w6State_good _ n3 _ l _ (by first | with_reducible exact T2.out.sl | with_reducible exact Sl.drew T2.out.sl | with_reducible exact Sl.alloc T2.out.sl _ | with_reducible exact t9_da T2.out.sl | with_reducible exact t9_ad T2.out.sl) HL.out (by omega) HG.out fi ft fh fe fu fp fq fn fm HF HFN HFM).mono ?_); rintro e u1 ⟨Aw, cw, Bw, dw, rfl, Rw, Qw, hapw, b1_⟩; have G1 : Below v2.heap.size v2 u1 := (by first | with_reducible exact b1_ | with_reducible exact tb_dr b1_ | with_reducible exact tb_al b1_ | with_reducible exact tb_da b1_ | with_reducible exact tb_ad b1_); have E1 : Below v2.heap.size v2 u1 := G1; have hS1 : ∀ b o, b < v2.heap.size → u1.cell? ⟨b, o, none⟩ = v2.cell? ⟨b, o, none⟩ := fun b o hb => E1.cell (p := ⟨b, o, none⟩) hb; have P3 := P2.out.sl.below E1; have Q3 := Q2.out.sl.below E1) | (go_at_call 23; (with_reducible refine (hss_ (specSameState_any A7 fn c7 B7 fm d7 fi ft fh fe fu Aw fn cw Bw fm dw fi ft fh fe fu fp fq fp fq _ (by first | with_reducible exact P3 | with_reducible exact Sl.drew P3 | with_reducible exact Sl.alloc P3 _ | with_reducible exact t9_da P3 | with_reducible exact t9_ad P3) (by first | with_reducible exact Q3 | with_reducible exact Sl.drew Q3 | with_reducible exact Sl.alloc Q3 _ | with_reducible exact t9_da Q3 | with_reducible exact t9_ad Q3) (by first | with_reducible exact Rw.sl | with_reducible exact Sl.drew Rw.sl | with_reducible exact Sl.alloc Rw.sl _ | with_reducible exact t9_da Rw.sl | with_reducible exact t9_ad Rw.sl) (by first | with_reducible exact Qw.sl | with_reducible exact Sl.drew Qw.sl | with_reducible exact Sl.alloc Qw.sl _ | with_reducible exact t9_da Qw.sl | with_reducible exact t9_ad Qw.sl) HFN.out HFM.out HFN.out HFM.out hfm0 hfm1 hfm0 hfm1) hssf.out).mono ?_); rintro e u2 ⟨rfl, b2_⟩; have G2 : Below u1.heap.size u1 u2 := (by first | with_reducible exact b2_ | with_reducible exact tb_dr b2_ | with_reducible exact tb_al b2_ | with_reducible exact tb_da b2_ | with_reducible exact tb_ad b2_); have E2 : Below v2.heap.size v2 u2 := bthen E1 G2; have hS2 : ∀ b o, b < v2.heap.size → u2.cell? ⟨b, o, none⟩ = v2.cell? ⟨b, o, none⟩ := fun b o hb => E2.cell (p := ⟨b, o, none⟩) hb; have P4 := P3.below G2; have Q4 := Q3.below G2; have P5 := P9.out.sl.below E2; have Q5 := Q9.out.sl.below E2) | (go_at_call 23; (with_reducible refine (hss_ (specSameState_any A9 fn c9 B9 fm d9 fi ft fh fe fu A7 fn c7 B7 fm d7 fi ft fh fe fu fp fq fp fq _ (by first | with_reducible exact P5 | with_reducible exact Sl.drew P5 | with_reducible exact Sl.alloc P5 _ | with_reducible exact t9_da P5 | with_reducible exact t9_ad P5) (by first | with_reducible exact Q5 | with_reducible exact Sl.drew Q5 | with_reducible exact Sl.alloc Q5 _ | with_reducible exact t9_da Q5 | with_reducible exact t9_ad Q5) (by first | with_reducible exact P4 | with_reducible exact Sl.drew P4 | with_reducible exact Sl.alloc P4 _ | with_reducible exact t9_da P4 | with_reducible exact t9_ad P4) (by first | with_reducible exact Q4 | with_reducible exact Sl.drew Q4 | with_reducible exact Sl.alloc Q4 _ | with_reducible exact t9_da Q4 | with_reducible exact t9_ad Q4) HFN.out HFM.out HFN.out HFM.out hfm0 hfm1 hfm0 hfm1) hssf.out).mono ?_); rintro e u3 ⟨rfl, b3_⟩; have G3 : Below u2.heap.size u2 u3 := (by first | with_reducible exact b3_ | with_reducible exact tb_dr b3_ | with_reducible exact tb_al b3_ | with_reducible exact tb_da b3_ | with_reducible exact tb_ad b3_); have E3 : Below v2.heap.size v2 u3 := bthen E2 G3; have hS3 : ∀ b o, b < v2.heap.size → u3.cell? ⟨b, o, none⟩ = v2.cell? ⟨b, o, none⟩ := fun b o hb => E3.cell (p := ⟨b, o, none⟩) hb))
      all_goals go_wp2_with fail
      all_goals go_ret
      all_goals exact ⟨rfl, by rw [← HP.out]; exact btr F2.out (E3.mono (by omega))⟩

end Go.Proofs.YtokklkmibjpjnaaGreat
