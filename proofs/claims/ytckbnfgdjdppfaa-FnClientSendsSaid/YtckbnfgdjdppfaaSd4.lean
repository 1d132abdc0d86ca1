/- Messages read back: RowOk, KindOf, RowRead, RowAsk, MsgOk. -/
import Derived.Test.YtckbnfgdjdppfaaSd2
import Derived.Test.YtckbnfgdjdppfaaApp2
import Derived.Deep.DeepCutAuto
import Derived.Laws.EntriesVeiled
namespace Go.Proofs.Ytckbnfgdjdppfaa
set_option linter.unusedSimpArgs false
set_option linter.unusedVariables false
attribute [local go_sem] n_lt2 n_lt3 n_lt4 n_le2 n_le3
open Go.RowKit
attribute [local go_sem] Ext.cell Ext.frozen
theorem sl_tail {w : World} {b off n k : Nat} {zs : List Int} (h : Sl w 1 (some ⟨b, off, none⟩) n zs) (hk : k ≤ n) : Sl w 1 (some ⟨b, off + k, none⟩) (n - k) (zs.drop k) := by
  refine ⟨by have := h.1; simp; omega, fun hn => ?_⟩
  obtain ⟨b', off', hA, hb, hj⟩ := h.2 (by omega)
  injection hA with hA
  injection hA with h1 h2
  subst h1 h2
  refine ⟨b, off + k, rfl, hb, fun j hjn => ?_⟩
  rw [Nat.add_assoc, hj (k + j) (by omega)]
  simp [List.getD]
def numsB (zs : List Int) : Prop := ∀ j, j < zs.length → 0 ≤ zs.getD j 0 ∧ zs.getD j 0 ≤ 1000000000
set_option maxHeartbeats 1000000 in
theorem rowOk_yes (A : Option Addr) (n cap : Nat) (zs : List Int) (w : World) (hS : Sl w 1 A n zs) (hn : n ≤ 48) (hz : numsB zs) :
    Calls Try.prog 22 #[.slice A n cap] w fun e w' => e = .returned (.bool true) ∧ w = w' := by
  have HS := Lib.hid hS
  have HZ := Lib.hid hz
  clear hS hz
  have hn1 : ¬ (48 : Int) < (n : Int) := by omega
  go_enter Try.func22, Try.ntmps22
  go_wp2
  go_loopw [10] (fun iv wr => ∃ j : Nat, j ≤ n ∧ iv = .int .i64 j ∧ wr = w) (fun iv _ => n - (intOf iv).toNat)
  case atStart => exact ⟨0, Nat.zero_le _, rfl, rfl⟩
  case round =>
    obtain ⟨j, hj, rfl, hwr⟩ := hrel
    subst wr
    by_cases hlt : j < n
    · obtain ⟨b, off, rfl, hb, hc⟩ := HS.out.at_ (by omega)
      have h0 := hc j (by omega)
      clear hc
      have hlt' : (j : Int) < (n : Int) := by omega
      have hl := HS.out.len
      have cb := between_any (zs.getD j 0) 0 1000000000 w
      rw [show inB (zs.getD j 0) 0 1000000000 = true from (inB_iff _ _ _).2 (HZ.out j (by omega))] at cb
      generalize zs.getD j 0 = y at h0 cb
      clear hl
      go_wp2_with fail
      refine cb.mono ?_
      rintro e w' ⟨rfl, rfl⟩
      go_wp2
      exact ⟨⟨j + 1, by omega, by go_num, by first | rfl | trivial⟩, by simp [intOf]; omega⟩
    · have hjn : j = n := by omega
      subst hjn
      go_wp2
      go_ret
      exact ⟨rfl, rfl⟩
set_option maxHeartbeats 1000000 in
theorem kindRow_yes (A : Option Addr) (n cap : Nat) (q : Int) (zs : List Int) (w : World) (hS : Sl w 1 A n (q :: zs)) (hn : n ≤ 48) (hz : numsB (q :: zs)) (hq : 1 ≤ q ∧ q ≤ 9) :
    Calls Try.prog 37 #[.slice A n cap] w fun e w' => e = .returned (.int .i64 q) ∧ w = w' := by
  have hl := hS.len
  simp only [List.length_cons] at hl
  have cr := rowOk_yes A n cap (q :: zs) w hS hn hz
  have cb := between_any q 1 9 w
  rw [show inB q 1 9 = true from (inB_iff _ _ _).2 hq] at cb
  obtain ⟨b, off, rfl, hb, hc⟩ := hS.at_ (by omega)
  have h0 := hc 0 (by omega)
  simp only [List.getD_cons_zero, Nat.add_zero] at h0
  have hn1 : ¬ (n : Int) = 0 := by omega
  have hn2 : ((n : Int) == 0) = false := by simpa using hn1
  have hn3 : (0 : Int) < (n : Int) := by omega
  have hn4 : 0 < n := by omega
  clear hl hc hS hz
  go_enter Try.func37, Try.ntmps37
  go_wp2_with fail
  refine cr.mono ?_
  rintro e w' ⟨rfl, rfl⟩
  go_wp2_with fail
  refine cb.mono ?_
  rintro e w' ⟨rfl, rfl⟩
  go_wp2
  go_ret
  exact ⟨rfl, rfl⟩
set_option maxHeartbeats 1000000 in
theorem equalRow_yes (A B : Option Addr) (n cap cap' : Nat) (zs : List Int) (w : World) (hS : Sl w 1 A n zs) (hT : Sl w 1 B n zs) (hn : n ≤ 48) :
    Calls Try.prog 45 #[.slice A n cap, .slice B n cap'] w fun e w' => e = .returned (.bool true) ∧ Below w.heap.size w w' := by
  have HS := Lib.hid hS
  have HT := Lib.hid hT
  clear hS hT
  go_enter Try.func45, Try.ntmps45
  go_wp2
  go_loopw [13] (fun i wr => ∃ (k : Nat), k ≤ n ∧ i = .int .i64 k ∧ Below w.heap.size w wr) (fun i _ => n - (intOf i).toNat)
  case atStart => exact ⟨0, Nat.zero_le _, rfl, Below.refl _ _⟩
  case round =>
    obtain ⟨k, hk, rfl, hbl⟩ := hrel
    by_cases hlt : k < n
    · obtain ⟨b, off, rfl, hb, hcell⟩ := HS.out.at_ (by omega)
      obtain ⟨b', off', rfl, hb', hcell'⟩ := HT.out.at_ (by omega)
      have h0 := hcell k (by omega)
      have p0 := hcell' k (by omega)
      rw [← hbl.cell (by exact hb)] at h0
      rw [← hbl.cell (by exact hb')] at p0
      clear hcell hcell'
      generalize zs.getD k 0 = x0 at h0 p0
      have hbr : b < wr.heap.size := Nat.lt_of_lt_of_le hb hbl.size
      have hbr' : b' < wr.heap.size := Nat.lt_of_lt_of_le hb' hbl.size
      have hk2 : (k : Int) < (n : Int) := by omega
      go_wp2
      ((refine wp_region_ext (by kernel_rfl) (by kernel_rfl) ?_); (repeat (any_goals (first | go_big_quiet_step (fail) | (refine wpQuiet_step (fun K hK => ?_); go_simp; split <;> (refine hK _ ?_; clear hK K)) | quiet_step (fail)))); (all_goals (refine wpQuiet_nil ?_; rintro _ ⟨z, rfl⟩; have hb' := z.h; generalize z.w = w1 at hb' ⊢; clear z; (first | (have hb2 := bstep hb' hb hb.size; clear hb' hcb hfb hz1 hz2 hz3 hz4 hb; have hb := hb2; clear hb2) | (have hb := hb'; clear hb')); obtain ⟨hcb, hfb, hz1, hz2, hz3, hz4⟩ := bcell hb; (try simp only [World.size_alloc, World.size_setCell, World.size_drew, Nat.lt_add_one_iff, Nat.add_assoc, Nat.reduceAdd] at hz1 hz2 hz3 hz4))))
      go_wp2
      exact ⟨⟨k + 1, by omega, by go_num, bstep hb hbl hbl.size⟩, by simp [intOf]; omega⟩
    · have hkn : k = n := by omega
      subst hkn
      go_wp2
      go_ret
      exact ⟨rfl, hbl⟩
theorem sameRow_yes (A B : Option Addr) (n cap cap' : Nat) (zs : List Int) (w : World) (hS : Sl w 1 A n zs) (hT : Sl w 1 B n zs) (hn : n ≤ 48) :
    Calls Try.prog 38 #[.slice A n cap, .slice B n cap'] w fun e w' => e = .returned (.bool true) ∧ Below w.heap.size w w' := by
  have c1 := equalRow_yes A B n cap cap' zs w hS hT hn
  go_enter Try.func38, Try.ntmps38
  go_wp2_with fail
  refine c1.mono ?_
  rintro e w1 ⟨rfl, b1⟩
  go_wp2
  go_ret
  exact ⟨rfl, b1⟩
theorem rd_drew {W v : World} {g : Nat} (h : ∀ b o, b < g → v.cell? ⟨b, o, none⟩ = W.cell? ⟨b, o, none⟩) : ∀ b o, b < g → v.drew.cell? ⟨b, o, none⟩ = W.cell? ⟨b, o, none⟩ := h
theorem rd_set {W v : World} {g k : Nat} (h : ∀ b o, b < g → v.cell? ⟨b, o, none⟩ = W.cell? ⟨b, o, none⟩) (hz : g ≤ k) (j : Nat) (y : Value) : ∀ b o, b < g → (v.setCell ⟨k, j, none⟩ y).cell? ⟨b, o, none⟩ = W.cell? ⟨b, o, none⟩ := fun b o hb => (World.cell?_setCell_far _ _ _ _ (by show k ≠ b; omega)).trans (h b o hb)
set_option maxRecDepth 100000 in
set_option maxHeartbeats 2000000 in
theorem opOf_any (b off cap : Nat) (k a b_ x y : Int) (w : World) (hS : Sl w 1 (some ⟨b, off, none⟩) 5 [k, a, b_, x, y]) :
    Calls Try.prog 30 #[.slice (some ⟨b, off, none⟩) 5 cap] w fun e w' => e = .returned (.agg #[.int .i64 k, .int .i64 a, .int .i64 (b_), .int .i64 x, .int .i64 y]) ∧ Below w.heap.size w w' := by
  have HS := Lib.hid hS
  clear hS
  go_enter Try.func30, Try.ntmps30
  go_upto_region 1 with fail
  obtain ⟨v, hv⟩ : ∃ v : World, v = w.alloc (.cells #[.int .i64 0, .int .i64 0, .int .i64 0, .int .i64 0, .int .i64 0] 43) := ⟨_, rfl⟩
  rw [← hv]
  have K : Blk v w.heap.size 43 #[.int .i64 0, .int .i64 0, .int .i64 0, .int .i64 0, .int .i64 0] := by rw [hv]; exact Blk.new _ _ _
  have f0 : Below w.heap.size w v := by rw [hv]; (repeat' (first | (with_reducible exact Below.refl _ _) | (with_reducible assumption) | (with_reducible refine Below.alloc ?_ ?_ _) | (with_reducible refine Below.drew ?_) | (with_reducible refine Below.setCell ?_ ?_ _) | (with_reducible refine bstep (by assumption) ?_ ?_) | (with_reducible exact Nat.le_refl _) | omega | (simp [*]; done) | (simp [*]; omega)))
  have S1 := HS.out.below f0
  have hlt : b < w.heap.size := by
    obtain ⟨b', off', hA, hb, hc⟩ := HS.out.at_ (by decide)
    injection hA with hA
    injection hA with h1 h2
    subst h1
    exact hb
  clear hv
  obtain ⟨b', off', hA, hb, hc⟩ := S1.at_ (by decide)
  injection hA with hA
  injection hA with h1 h2
  subst h1 h2
  have h0 := hc 0 (by omega)
  have h1 := hc 1 (by omega)
  have h2 := hc 2 (by omega)
  have h3 := hc 3 (by omega)
  have h4 := hc 4 (by omega)
  simp only [Nat.add_zero, List.getD_cons_zero, List.getD_cons_succ] at h0 h1 h2 h3 h4
  have lk := K.lt
  have kc0 := K.cell 0
  have kz0 := K.frozen 0
  have kc1 := K.cell 1
  have kz1 := K.frozen 1
  have kc2 := K.cell 2
  have kz2 := K.frozen 2
  have kc3 := K.cell 3
  have kz3 := K.frozen 3
  have kc4 := K.cell 4
  have kz4 := K.frozen 4
  have HK := Lib.hid K
  have hbn : ¬ b = w.heap.size := by omega
  have hS0 : ∀ b o, b < w.heap.size → v.cell? ⟨b, o, none⟩ = v.cell? ⟨b, o, none⟩ := fun b o hb => rfl
  clear hc S1 K
  go_region_held_law (fun w' => ∀ b o, b < w.heap.size → w'.cell? ⟨b, o, none⟩ = v.cell? ⟨b, o, none⟩) (repeat' (first | with_reducible assumption | with_reducible exact Nat.le_refl _ | with_reducible exact hS0 | with_reducible refine rd_drew ?_ | with_reducible refine rd_set ?_ ?_ _ _)) (fail)
  all_goals
    go_wp21
    refine bodyPost_ret (v := .agg #[.int .i64 k, .int .i64 a, .int .i64 (b_), .int .i64 x, .int .i64 y]) (by simp [results, Try.results30, go_sem, *]) rfl ?_
    exact ⟨rfl, (((((f0.drew).setCell (p := ⟨w.heap.size, 0, none⟩) (Nat.le_refl _) _).setCell (p := ⟨w.heap.size, 1, none⟩) (Nat.le_refl _) _).setCell (p := ⟨w.heap.size, 2, none⟩) (Nat.le_refl _) _).setCell (p := ⟨w.heap.size, 3, none⟩) (Nat.le_refl _) _).setCell (p := ⟨w.heap.size, 4, none⟩) (Nat.le_refl _) _⟩
set_option maxRecDepth 100000 in
set_option maxHeartbeats 2000000 in
theorem rowRead1_any (b off cap : Nat) (c s k l : Int) (w : World) (hS : Sl w 1 (some ⟨b, off, none⟩) 4 [c, s, k, l]) :
    Calls Try.prog 24 #[.slice (some ⟨b, off, none⟩) 4 cap] w fun e w' => e = .returned (.agg #[.int .i64 c, .int .i64 s, .int .i64 k, .int .i64 l]) ∧ Below w.heap.size w w' := by
  have HS := Lib.hid hS
  clear hS
  go_enter Try.func24, Try.ntmps24
  go_upto_region 1 with fail
  obtain ⟨v, hv⟩ : ∃ v : World, v = w.alloc (.cells #[.int .i64 0, .int .i64 0, .int .i64 0, .int .i64 0] 47) := ⟨_, rfl⟩
  rw [← hv]
  have K : Blk v w.heap.size 47 #[.int .i64 0, .int .i64 0, .int .i64 0, .int .i64 0] := by rw [hv]; exact Blk.new _ _ _
  have f0 : Below w.heap.size w v := by rw [hv]; (repeat' (first | (with_reducible exact Below.refl _ _) | (with_reducible assumption) | (with_reducible refine Below.alloc ?_ ?_ _) | (with_reducible refine Below.drew ?_) | (with_reducible refine Below.setCell ?_ ?_ _) | (with_reducible refine bstep (by assumption) ?_ ?_) | (with_reducible exact Nat.le_refl _) | omega | (simp [*]; done) | (simp [*]; omega)))
  have S1 := HS.out.below f0
  have hlt : b < w.heap.size := by
    obtain ⟨b', off', hA, hb, hc⟩ := HS.out.at_ (by decide)
    injection hA with hA
    injection hA with h1 h2
    subst h1
    exact hb
  clear hv
  obtain ⟨b', off', hA, hb, hc⟩ := S1.at_ (by decide)
  injection hA with hA
  injection hA with h1 h2
  subst h1 h2
  have h0 := hc 0 (by omega)
  have h1 := hc 1 (by omega)
  have h2 := hc 2 (by omega)
  have h3 := hc 3 (by omega)
  simp only [Nat.add_zero, List.getD_cons_zero, List.getD_cons_succ] at h0 h1 h2 h3
  have lk := K.lt
  have kc0 := K.cell 0
  have kz0 := K.frozen 0
  have kc1 := K.cell 1
  have kz1 := K.frozen 1
  have kc2 := K.cell 2
  have kz2 := K.frozen 2
  have kc3 := K.cell 3
  have kz3 := K.frozen 3
  have HK := Lib.hid K
  have hbn : ¬ b = w.heap.size := by omega
  have hS0 : ∀ b o, b < w.heap.size → v.cell? ⟨b, o, none⟩ = v.cell? ⟨b, o, none⟩ := fun b o hb => rfl
  clear hc S1 K
  go_region_held_law (fun w' => ∀ b o, b < w.heap.size → w'.cell? ⟨b, o, none⟩ = v.cell? ⟨b, o, none⟩) (repeat' (first | with_reducible assumption | with_reducible exact Nat.le_refl _ | with_reducible exact hS0 | with_reducible refine rd_drew ?_ | with_reducible refine rd_set ?_ ?_ _ _)) (fail)
  all_goals
    go_wp21
    refine bodyPost_ret (v := .agg #[.int .i64 c, .int .i64 s, .int .i64 k, .int .i64 l]) (by simp [results, Try.results24, go_sem, *]) rfl ?_
    exact ⟨rfl, ((((f0.drew).setCell (p := ⟨w.heap.size, 0, none⟩) (Nat.le_refl _) _).setCell (p := ⟨w.heap.size, 1, none⟩) (Nat.le_refl _) _).setCell (p := ⟨w.heap.size, 2, none⟩) (Nat.le_refl _) _).setCell (p := ⟨w.heap.size, 3, none⟩) (Nat.le_refl _) _⟩
theorem sd_dr {v w' : World} (h : Below v.drew.heap.size v.drew w') : Below v.heap.size v w' := ⟨h.os, h.tape, h.output, h.size, h.block⟩
set_option maxRecDepth 100000 in
set_option maxHeartbeats 4000000 in
theorem rowAsk1_any (b off cap : Nat) (c s k a b_ x_ y_ : Int) (w : World) (hS : Sl w 1 (some ⟨b, off, none⟩) 7 [c, s, k, a, b_, x_, y_]) (hcap : 7 ≤ cap) (hcm : cap ≤ maxLen) :
    Calls Try.prog 29 #[.slice (some ⟨b, off, none⟩) 7 cap] w fun e w' => e = .returned (.agg #[.int .i64 c, .int .i64 s, .int .i64 k, .int .i64 a, .int .i64 (b_), .int .i64 (x_), .int .i64 (y_)]) ∧ Below w.heap.size w w' := by
  have HS := Lib.hid hS
  clear hS
  unfold maxLen at hcm
  go_enter Try.func29, Try.ntmps29
  go_upto_region 1 with fail
  obtain ⟨v, hv⟩ : ∃ v : World, v = w.alloc (.cells #[.int .i64 0, .int .i64 0, .int .i64 0, .int .i64 0, .int .i64 0, .int .i64 0, .int .i64 0] 54) := ⟨_, rfl⟩
  rw [← hv]
  have K : Blk v w.heap.size 54 #[.int .i64 0, .int .i64 0, .int .i64 0, .int .i64 0, .int .i64 0, .int .i64 0, .int .i64 0] := by rw [hv]; exact Blk.new _ _ _
  have f0 : Below w.heap.size w v := by rw [hv]; (repeat' (first | (with_reducible exact Below.refl _ _) | (with_reducible assumption) | (with_reducible refine Below.alloc ?_ ?_ _) | (with_reducible refine Below.drew ?_) | (with_reducible refine Below.setCell ?_ ?_ _) | (with_reducible refine bstep (by assumption) ?_ ?_) | (with_reducible exact Nat.le_refl _) | omega | (simp [*]; done) | (simp [*]; omega)))
  have S1 := HS.out.below f0
  have hlt : b < w.heap.size := by
    obtain ⟨b', off', hA, hb, hc⟩ := HS.out.at_ (by decide)
    injection hA with hA
    injection hA with h1 h2
    subst h1
    exact hb
  clear hv
  obtain ⟨b', off', hA, hb, hc⟩ := S1.at_ (by decide)
  injection hA with hA
  injection hA with h1 h2
  subst h1 h2
  have h0 := hc 0 (by omega)
  have h1 := hc 1 (by omega)
  simp only [Nat.add_zero, List.getD_cons_zero, List.getD_cons_succ] at h0 h1
  have S2 := Lib.hid (show Sl v 1 (some ⟨b, off + 2, none⟩) 5 [k, a, b_, x_, y_] from sl_tail (k := 2) S1 (by omega))
  have lk := K.lt
  have HK := Lib.hid K
  have hbn : ¬ b = w.heap.size := by omega
  have hS0 : ∀ b o, b < w.heap.size → v.cell? ⟨b, o, none⟩ = v.cell? ⟨b, o, none⟩ := fun b o hb => rfl
  have hsl : ∀ wz : World, (Instr.slice 36 (.slice (some ⟨b, off, none⟩) 7 cap) (some (.int .i64 2)) none none).run Try.prog wz = .ok (.slice (some ⟨b, off + 2, none⟩) 5 (cap - 2)) wz := fun wz => by
    have hc2 : ¬ cap = 2 := by omega
    go_simp
  clear hc S1 K hcap hcm
  go_region_held_law (fun w' => ∀ b o, b < w.heap.size → w'.cell? ⟨b, o, none⟩ = v.cell? ⟨b, o, none⟩) (repeat' (first | with_reducible assumption | with_reducible exact Nat.le_refl _ | with_reducible exact hS0 | with_reducible refine rd_drew ?_ | with_reducible refine rd_set ?_ ?_ _ _)) (first | (go_at_call 30; refine (opOf_any b (off + 2) (cap - 2) k a b_ x_ y_ _ (by first | with_reducible exact S2.out | with_reducible exact Sl.drew S2.out)).mono ?_; rintro e v1 ⟨rfl, b1⟩; have E1 : Below v.heap.size v v1 := (by first | with_reducible exact b1 | with_reducible exact sd_dr b1); have hS1 : ∀ b o, b < w.heap.size → v1.cell? ⟨b, o, none⟩ = v.cell? ⟨b, o, none⟩ := fun b o hb => E1.cell (p := ⟨b, o, none⟩) (Nat.lt_trans hb lk); have K1 := HK.out.below E1; have kkb0 := K1.cell 0; have kkf0 := K1.frozen 0; have kkb1 := K1.cell 1; have kkf1 := K1.frozen 1; have kkb2 := K1.cell 2; have kkf2 := K1.frozen 2; have kkb3 := K1.cell 3; have kkf3 := K1.frozen 3; have kkb4 := K1.cell 4; have kkf4 := K1.frozen 4; have kkb5 := K1.cell 5; have kkf5 := K1.frozen 5; have kkb6 := K1.cell 6; have kkf6 := K1.frozen 6; have kkl := K1.lt))
  all_goals
    go_wp21
    refine bodyPost_ret (v := .agg #[.int .i64 c, .int .i64 s, .int .i64 k, .int .i64 a, .int .i64 (b_), .int .i64 (x_), .int .i64 (y_)]) (by simp [results, Try.results29, go_sem, *]) rfl ?_
    exact ⟨rfl, ((((((((bthen f0 E1)).setCell (p := ⟨w.heap.size, 0, none⟩) (Nat.le_refl _) _).setCell (p := ⟨w.heap.size, 1, none⟩) (Nat.le_refl _) _).setCell (p := ⟨w.heap.size, 2, none⟩) (Nat.le_refl _) _).setCell (p := ⟨w.heap.size, 3, none⟩) (Nat.le_refl _) _).setCell (p := ⟨w.heap.size, 4, none⟩) (Nat.le_refl _) _).setCell (p := ⟨w.heap.size, 5, none⟩) (Nat.le_refl _) _).setCell (p := ⟨w.heap.size, 6, none⟩) (Nat.le_refl _) _⟩
theorem opB_nums {k a b c d : Int} (h : opB k a b c d = true) : (0 ≤ k ∧ k ≤ 5) ∧ (0 ≤ a ∧ a ≤ 1000) ∧ (0 ≤ b ∧ b ≤ 1000000) ∧ (0 ≤ c ∧ c ≤ 9) ∧ (0 ≤ d ∧ d ≤ 999) := by
  unfold opB at h
  repeat' split at h
  all_goals simp [inB_iff] at h
  all_goals omega
theorem numsAsk {c s k a b x y : Int} (h : askB c s k a b x y = true) : numsB (1 :: [c, s, k, a, b, x, y]) := by
  unfold askB at h
  simp only [Bool.and_eq_true, inB_iff] at h
  have ho := opB_nums h.2.2
  intro j hj
  match j, hj with
  | 0, _ => simp
  | 1, _ => simp; omega
  | 2, _ => simp; omega
  | 3, _ => simp; omega
  | 4, _ => simp; omega
  | 5, _ => simp; omega
  | 6, _ => simp; omega
  | 7, _ => simp; omega
  | j + 8, hj => exact absurd hj (by simp)
theorem numsRead {c s k l : Int} (h : readB c s k l = true) : numsB (6 :: [c, s, k, l]) := by
  unfold readB at h
  simp only [Bool.and_eq_true, inB_iff] at h
  intro j hj
  match j, hj with
  | 0, _ => simp
  | 1, _ => simp; omega
  | 2, _ => simp; omega
  | 3, _ => simp; omega
  | 4, _ => simp; omega
  | j + 5, hj => exact absurd hj (by simp)
set_option maxRecDepth 100000 in
set_option maxHeartbeats 4000000 in
theorem decRead_yes (b off cap : Nat) (c s k l : Int) (w : World) (hS : Sl w 1 (some ⟨b, off, none⟩) 5 [6, c, s, k, l]) (hcap : 5 ≤ cap) (hcm : cap ≤ maxLen) (h : readB c s k l = true) :
    Calls Try.prog 23 #[.slice (some ⟨b, off, none⟩) 5 cap, .int .i64 6, .int .i64 4, .int .i64 4, .func (.func 24) #[] #[]] w fun e w' => e = .returned (.tuple #[.agg #[.int .i64 c, .int .i64 s, .int .i64 k, .int .i64 l], .bool true]) ∧ Below w.heap.size w w' := by
  have n1 : ∀ w : World, (nilAhead 226 47 (.agg #[.int .i64 c, .int .i64 s, .int .i64 k, .int .i64 l]) "loop.example/g00851/impl.valid").run Try.prog w = .ok (some false) w := fun _ => by kernel_rfl
  have n2 : ∀ w : World, (method 226 47 (.agg #[.int .i64 c, .int .i64 s, .int .i64 k, .int .i64 l]) "loop.example/g00851/impl.valid").run Try.prog w = .ok (68, .agg #[.int .i64 c, .int .i64 s, .int .i64 k, .int .i64 l]) w := fun _ => by kernel_rfl
  have n3 : ∀ w : World, (nilAhead 226 47 (.agg #[.int .i64 c, .int .i64 s, .int .i64 k, .int .i64 l]) "loop.example/g00851/impl.fields").run Try.prog w = .ok (some false) w := fun _ => by kernel_rfl
  have n4 : ∀ w : World, (method 226 47 (.agg #[.int .i64 c, .int .i64 s, .int .i64 k, .int .i64 l]) "loop.example/g00851/impl.fields").run Try.prog w = .ok (67, .agg #[.int .i64 c, .int .i64 s, .int .i64 k, .int .i64 l]) w := fun _ => by kernel_rfl
  have HS := Lib.hid hS
  have HV := Lib.hid h
  have hz : numsB (6 :: [c, s, k, l]) := numsRead h
  have HZ := Lib.hid hz
  clear hS h hz
  unfold maxLen at hcm
  go_enter Try.func23, Try.ntmps23
  go_wp2_with fail
  refine calls_named ?_
  rintro v0 hv0
  have f0 : Below w.heap.size w v0 := by rw [hv0]; (repeat' (first | (with_reducible exact Below.refl _ _) | (with_reducible assumption) | (with_reducible refine Below.alloc ?_ ?_ _) | (with_reducible refine Below.drew ?_) | (with_reducible refine Below.setCell ?_ ?_ _) | (with_reducible refine bstep (by assumption) ?_ ?_) | (with_reducible exact Nat.le_refl _) | omega | (simp [*]; done) | (simp [*]; omega)))
  have z0 : w.heap.size + 2 ≤ v0.heap.size := by rw [hv0]; simp [size_set]
  have HS_0 := Lib.hid (HS.out.below f0)
  have HS_lt := Lib.hid (fun hn => HS.out.lt hn)
  have Hr_0 : Hid (Blk v0 w.heap.size 47 #[.int .i64 0, .int .i64 0, .int .i64 0, .int .i64 0]) := by rw [hv0]; exact (Blk.new_at _ _ _ _ (by simp)).alloc _
  have Hn_0 : Hid (Blk v0 (w.heap.size + 1) 47 #[.int .i64 0, .int .i64 0, .int .i64 0, .int .i64 0]) := by rw [hv0]; exact Blk.new_at _ _ _ _ (by simp)
  clear hv0
  generalize hg1 : w.heap.size + 1 = g1 at *
  have lg1 : w.heap.size < g1 := by omega
  have lgz : g1 < v0.heap.size := by omega
  have nq1x0 : ¬ g1 = w.heap.size := by omega
  have nq0x1 : ¬ w.heap.size = g1 := by omega
  clear hg1
  have lt_r := Hr_0.out.lt
  have r_r0 : v0.cell? ⟨w.heap.size, 0, none⟩ = some (.int .i64 0) := Hr_0.out.cell 0
  have r_r1 : v0.cell? ⟨w.heap.size, 1, none⟩ = some (.int .i64 0) := Hr_0.out.cell 1
  have r_r2 : v0.cell? ⟨w.heap.size, 2, none⟩ = some (.int .i64 0) := Hr_0.out.cell 2
  have r_r3 : v0.cell? ⟨w.heap.size, 3, none⟩ = some (.int .i64 0) := Hr_0.out.cell 3
  have lt_n := Hn_0.out.lt
  have r_n0 : v0.cell? ⟨g1, 0, none⟩ = some (.int .i64 0) := Hn_0.out.cell 0
  have r_n1 : v0.cell? ⟨g1, 1, none⟩ = some (.int .i64 0) := Hn_0.out.cell 1
  have r_n2 : v0.cell? ⟨g1, 2, none⟩ = some (.int .i64 0) := Hn_0.out.cell 2
  have r_n3 : v0.cell? ⟨g1, 3, none⟩ = some (.int .i64 0) := Hn_0.out.cell 3
  have z_r0 := Hr_0.out.frozen 0
  have z_r1 := Hr_0.out.frozen 1
  have z_r2 := Hr_0.out.frozen 2
  have z_r3 := Hr_0.out.frozen 3
  refine (kindRow_yes (some ⟨b, off, none⟩) 5 cap 6 [c, s, k, l] v0 HS_0.out (by decide) HZ.out (by decide)).mono ?_
  rintro e v' ⟨rfl, rfl⟩
  go_wp2_with fail
  have T0 := Lib.hid (show Sl v0 1 (some ⟨b, off + 1, none⟩) 4 [c, s, k, l] from sl_tail (k := 1) HS_0.out (by omega))
  refine (rowRead1_any b (off + 1) (cap - 1) c s k l v0 T0.out).mono ?_
  rintro e v1 ⟨rfl, b1⟩
  have f1 := bthen f0 b1
  have z1 := b1.size
  have HS_1 := Lib.hid (HS_0.out.below b1)
  have Hr_1 := Lib.hid (Hr_0.out.below b1)
  have Hn_1 := Lib.hid (Hn_0.out.below b1)
  clear lt_r r_r0 r_r1 r_r2 r_r3 lt_n r_n0 r_n1 r_n2 r_n3 z_r0 z_r1 z_r2 z_r3
  clear HS_0 Hr_0 Hn_0
  clear T0
  have lt_r := Hr_1.out.lt
  have r_r0 : v1.cell? ⟨w.heap.size, 0, none⟩ = some (.int .i64 0) := Hr_1.out.cell 0
  have r_r1 : v1.cell? ⟨w.heap.size, 1, none⟩ = some (.int .i64 0) := Hr_1.out.cell 1
  have r_r2 : v1.cell? ⟨w.heap.size, 2, none⟩ = some (.int .i64 0) := Hr_1.out.cell 2
  have r_r3 : v1.cell? ⟨w.heap.size, 3, none⟩ = some (.int .i64 0) := Hr_1.out.cell 3
  have lt_n := Hn_1.out.lt
  have r_n0 : v1.cell? ⟨g1, 0, none⟩ = some (.int .i64 0) := Hn_1.out.cell 0
  have r_n1 : v1.cell? ⟨g1, 1, none⟩ = some (.int .i64 0) := Hn_1.out.cell 1
  have r_n2 : v1.cell? ⟨g1, 2, none⟩ = some (.int .i64 0) := Hn_1.out.cell 2
  have r_n3 : v1.cell? ⟨g1, 3, none⟩ = some (.int .i64 0) := Hn_1.out.cell 3
  have z_r0 := Hr_1.out.frozen 0
  have z_r1 := Hr_1.out.frozen 1
  have z_r2 := Hr_1.out.frozen 2
  have z_r3 := Hr_1.out.frozen 3
  go_upto_region 5 with fail
  obtain ⟨v2, hv2⟩ : ∃ x : World, x = (v1.alloc (.cells #[.int .i64 c, .int .i64 s, .int .i64 k, .int .i64 l] 47)) := ⟨_, rfl⟩
  rw [← hv2]
  have f2 : Below w.heap.size w v2 := by rw [hv2]; (repeat' (first | (with_reducible exact Below.refl _ _) | (with_reducible assumption) | (with_reducible refine Below.alloc ?_ ?_ _) | (with_reducible refine Below.drew ?_) | (with_reducible refine Below.setCell ?_ ?_ _) | (with_reducible refine bstep (by assumption) ?_ ?_) | (with_reducible exact Nat.le_refl _) | omega | (simp [*]; done) | (simp [*]; omega)))
  have z2 : v1.heap.size + 1 ≤ v2.heap.size := by rw [hv2]; simp [size_set]
  have HS_2 : Hid (Sl v2 1 (some ⟨b, off, none⟩) 5 (6 :: [c, s, k, l])) := by rw [hv2]; exact (HS_1.out).alloc _
  have Hr_2 : Hid (Blk v2 w.heap.size 47 #[.int .i64 0, .int .i64 0, .int .i64 0, .int .i64 0]) := by rw [hv2]; exact (Hr_1.out).alloc _
  have Hn_2 : Hid (Blk v2 g1 47 #[.int .i64 0, .int .i64 0, .int .i64 0, .int .i64 0]) := by rw [hv2]; exact (Hn_1.out).alloc _
  have Hl_2 : Hid (Blk v2 v1.heap.size 47 #[.int .i64 c, .int .i64 s, .int .i64 k, .int .i64 l]) := by rw [hv2]; exact (Blk.new_at _ _ _ _ (by simp [size_set]))
  clear lt_r r_r0 r_r1 r_r2 r_r3 lt_n r_n0 r_n1 r_n2 r_n3 z_r0 z_r1 z_r2 z_r3
  clear hv2 HS_1 Hr_1 Hn_1
  have lt_r := Hr_2.out.lt
  have r_r0 : v2.cell? ⟨w.heap.size, 0, none⟩ = some (.int .i64 0) := Hr_2.out.cell 0
  have r_r1 : v2.cell? ⟨w.heap.size, 1, none⟩ = some (.int .i64 0) := Hr_2.out.cell 1
  have r_r2 : v2.cell? ⟨w.heap.size, 2, none⟩ = some (.int .i64 0) := Hr_2.out.cell 2
  have r_r3 : v2.cell? ⟨w.heap.size, 3, none⟩ = some (.int .i64 0) := Hr_2.out.cell 3
  have lt_n := Hn_2.out.lt
  have r_n0 : v2.cell? ⟨g1, 0, none⟩ = some (.int .i64 0) := Hn_2.out.cell 0
  have r_n1 : v2.cell? ⟨g1, 1, none⟩ = some (.int .i64 0) := Hn_2.out.cell 1
  have r_n2 : v2.cell? ⟨g1, 2, none⟩ = some (.int .i64 0) := Hn_2.out.cell 2
  have r_n3 : v2.cell? ⟨g1, 3, none⟩ = some (.int .i64 0) := Hn_2.out.cell 3
  have lt_l := Hl_2.out.lt
  have r_l0 : v2.cell? ⟨v1.heap.size, 0, none⟩ = some (.int .i64 c) := Hl_2.out.cell 0
  have r_l1 : v2.cell? ⟨v1.heap.size, 1, none⟩ = some (.int .i64 s) := Hl_2.out.cell 1
  have r_l2 : v2.cell? ⟨v1.heap.size, 2, none⟩ = some (.int .i64 k) := Hl_2.out.cell 2
  have r_l3 : v2.cell? ⟨v1.heap.size, 3, none⟩ = some (.int .i64 l) := Hl_2.out.cell 3
  have z_r0 := Hr_2.out.frozen 0
  have z_r1 := Hr_2.out.frozen 1
  have z_r2 := Hr_2.out.frozen 2
  have z_r3 := Hr_2.out.frozen 3
  have T1 := Lib.hid (show Sl v2 1 (some ⟨b, off + 1, none⟩) 4 [c, s, k, l] from sl_tail (k := 1) HS_2.out (by omega))
  have hS0 : ∀ b o, b < v2.heap.size → v2.cell? ⟨b, o, none⟩ = v2.cell? ⟨b, o, none⟩ := fun b o hb => rfl
  have cv : ∀ u, Calls Try.prog 68 #[.agg #[.int .i64 c, .int .i64 s, .int .i64 k, .int .i64 l]] u fun e w1 => e = .returned (.bool true) ∧ Below u.heap.size u w1 := fun u => by
    have := readValid_any c s k l u
    rw [HV.out] at this
    exact this
  go_region_held_law (fun w' => ∀ b o, b < v2.heap.size → w'.cell? ⟨b, o, none⟩ = v2.cell? ⟨b, o, none⟩) (repeat' (first | with_reducible assumption | with_reducible exact hS0 | with_reducible refine rd_drew ?_)) (first | (go_at_call 68; refine (cv _).mono ?_; rintro e u1 ⟨rfl, b1_⟩; have E1 : Below v2.heap.size v2 u1 := (by first | with_reducible exact b1_ | with_reducible exact sd_dr b1_); have hSu1 : ∀ b o, b < v2.heap.size → u1.cell? ⟨b, o, none⟩ = v2.cell? ⟨b, o, none⟩ := fun b o hb => E1.cell (p := ⟨b, o, none⟩) hb) | (go_at_call 67; refine (readFields_any c s k l _).mono ?_; rintro e u2 ⟨A2, c2, rfl, R2, b2_⟩; have E2 := bthen E1 b2_; have hSu2 : ∀ b o, b < v2.heap.size → u2.cell? ⟨b, o, none⟩ = v2.cell? ⟨b, o, none⟩ := fun b o hb => E2.cell (p := ⟨b, o, none⟩) hb) | (go_at_call 38; refine (sameRow_yes A2 (some ⟨b, off + 1, none⟩) 4 c2 (cap - 1) [c, s, k, l] _ R2.sl (T1.out.below E2) (by decide)).mono ?_; rintro e u3 ⟨rfl, b3_⟩; have E3 := bthen E2 b3_; have hSu3 : ∀ b o, b < v2.heap.size → u3.cell? ⟨b, o, none⟩ = v2.cell? ⟨b, o, none⟩ := fun b o hb => E3.cell (p := ⟨b, o, none⟩) hb; have Kr := Hr_2.out.below E3; have Kl := Hl_2.out.below E3; have krb0 := Kr.cell 0; have krf0 := Kr.frozen 0; have krb1 := Kr.cell 1; have krf1 := Kr.frozen 1; have krb2 := Kr.cell 2; have krf2 := Kr.frozen 2; have krb3 := Kr.cell 3; have krf3 := Kr.frozen 3; have krl := Kr.lt; have klb0 := Kl.cell 0; have klf0 := Kl.frozen 0; have klb1 := Kl.cell 1; have klf1 := Kl.frozen 1; have klb2 := Kl.cell 2; have klf2 := Kl.frozen 2; have klb3 := Kl.cell 3; have klf3 := Kl.frozen 3; have kll := Kl.lt))
  all_goals
    go_wp21
    refine bodyPost_ret (v := .tuple #[.agg #[.int .i64 c, .int .i64 s, .int .i64 k, .int .i64 l], .bool true]) (by simp [results, Try.results23, go_sem, *]) rfl ?_
    exact ⟨rfl, (((((bthen f2 E3)).setCell (p := ⟨w.heap.size, 0, none⟩) (Nat.le_refl _) _).setCell (p := ⟨w.heap.size, 1, none⟩) (Nat.le_refl _) _).setCell (p := ⟨w.heap.size, 2, none⟩) (Nat.le_refl _) _).setCell (p := ⟨w.heap.size, 3, none⟩) (Nat.le_refl _) _⟩
set_option maxRecDepth 100000 in
set_option maxHeartbeats 4000000 in
theorem decAsk_yes (b off cap : Nat) (c s k a b_ x_ y_ : Int) (w : World) (hS : Sl w 1 (some ⟨b, off, none⟩) 8 [1, c, s, k, a, b_, x_, y_]) (hcap : 8 ≤ cap) (hcm : cap ≤ maxLen) (h : askB c s k a b_ x_ y_ = true) :
    Calls Try.prog 28 #[.slice (some ⟨b, off, none⟩) 8 cap, .int .i64 1, .int .i64 7, .int .i64 7, .func (.func 29) #[] #[]] w fun e w' => e = .returned (.tuple #[.agg #[.int .i64 c, .int .i64 s, .int .i64 k, .int .i64 a, .int .i64 (b_), .int .i64 (x_), .int .i64 (y_)], .bool true]) ∧ Below w.heap.size w w' := by
  have n1 : ∀ w : World, (nilAhead 226 54 (.agg #[.int .i64 c, .int .i64 s, .int .i64 k, .int .i64 a, .int .i64 (b_), .int .i64 (x_), .int .i64 (y_)]) "loop.example/g00851/impl.valid").run Try.prog w = .ok (some false) w := fun _ => by kernel_rfl
  have n2 : ∀ w : World, (method 226 54 (.agg #[.int .i64 c, .int .i64 s, .int .i64 k, .int .i64 a, .int .i64 (b_), .int .i64 (x_), .int .i64 (y_)]) "loop.example/g00851/impl.valid").run Try.prog w = .ok (73, .agg #[.int .i64 c, .int .i64 s, .int .i64 k, .int .i64 a, .int .i64 (b_), .int .i64 (x_), .int .i64 (y_)]) w := fun _ => by kernel_rfl
  have n3 : ∀ w : World, (nilAhead 226 54 (.agg #[.int .i64 c, .int .i64 s, .int .i64 k, .int .i64 a, .int .i64 (b_), .int .i64 (x_), .int .i64 (y_)]) "loop.example/g00851/impl.fields").run Try.prog w = .ok (some false) w := fun _ => by kernel_rfl
  have n4 : ∀ w : World, (method 226 54 (.agg #[.int .i64 c, .int .i64 s, .int .i64 k, .int .i64 a, .int .i64 (b_), .int .i64 (x_), .int .i64 (y_)]) "loop.example/g00851/impl.fields").run Try.prog w = .ok (72, .agg #[.int .i64 c, .int .i64 s, .int .i64 k, .int .i64 a, .int .i64 (b_), .int .i64 (x_), .int .i64 (y_)]) w := fun _ => by kernel_rfl
  have HS := Lib.hid hS
  have HV := Lib.hid h
  have hz : numsB (1 :: [c, s, k, a, b_, x_, y_]) := numsAsk h
  have HZ := Lib.hid hz
  clear hS h hz
  unfold maxLen at hcm
  go_enter Try.func28, Try.ntmps28
  go_wp2_with fail
  refine calls_named ?_
  rintro v0 hv0
  have f0 : Below w.heap.size w v0 := by rw [hv0]; (repeat' (first | (with_reducible exact Below.refl _ _) | (with_reducible assumption) | (with_reducible refine Below.alloc ?_ ?_ _) | (with_reducible refine Below.drew ?_) | (with_reducible refine Below.setCell ?_ ?_ _) | (with_reducible refine bstep (by assumption) ?_ ?_) | (with_reducible exact Nat.le_refl _) | omega | (simp [*]; done) | (simp [*]; omega)))
  have z0 : w.heap.size + 2 ≤ v0.heap.size := by rw [hv0]; simp [size_set]
  have HS_0 := Lib.hid (HS.out.below f0)
  have HS_lt := Lib.hid (fun hn => HS.out.lt hn)
  have Hr_0 : Hid (Blk v0 w.heap.size 54 #[.int .i64 0, .int .i64 0, .int .i64 0, .int .i64 0, .int .i64 0, .int .i64 0, .int .i64 0]) := by rw [hv0]; exact (Blk.new_at _ _ _ _ (by simp)).alloc _
  have Hn_0 : Hid (Blk v0 (w.heap.size + 1) 54 #[.int .i64 0, .int .i64 0, .int .i64 0, .int .i64 0, .int .i64 0, .int .i64 0, .int .i64 0]) := by rw [hv0]; exact Blk.new_at _ _ _ _ (by simp)
  clear hv0
  generalize hg1 : w.heap.size + 1 = g1 at *
  have lg1 : w.heap.size < g1 := by omega
  have lgz : g1 < v0.heap.size := by omega
  have nq1x0 : ¬ g1 = w.heap.size := by omega
  have nq0x1 : ¬ w.heap.size = g1 := by omega
  clear hg1
  have lt_r := Hr_0.out.lt
  have r_r0 : v0.cell? ⟨w.heap.size, 0, none⟩ = some (.int .i64 0) := Hr_0.out.cell 0
  have r_r1 : v0.cell? ⟨w.heap.size, 1, none⟩ = some (.int .i64 0) := Hr_0.out.cell 1
  have r_r2 : v0.cell? ⟨w.heap.size, 2, none⟩ = some (.int .i64 0) := Hr_0.out.cell 2
  have r_r3 : v0.cell? ⟨w.heap.size, 3, none⟩ = some (.int .i64 0) := Hr_0.out.cell 3
  have r_r4 : v0.cell? ⟨w.heap.size, 4, none⟩ = some (.int .i64 0) := Hr_0.out.cell 4
  have r_r5 : v0.cell? ⟨w.heap.size, 5, none⟩ = some (.int .i64 0) := Hr_0.out.cell 5
  have r_r6 : v0.cell? ⟨w.heap.size, 6, none⟩ = some (.int .i64 0) := Hr_0.out.cell 6
  have lt_n := Hn_0.out.lt
  have r_n0 : v0.cell? ⟨g1, 0, none⟩ = some (.int .i64 0) := Hn_0.out.cell 0
  have r_n1 : v0.cell? ⟨g1, 1, none⟩ = some (.int .i64 0) := Hn_0.out.cell 1
  have r_n2 : v0.cell? ⟨g1, 2, none⟩ = some (.int .i64 0) := Hn_0.out.cell 2
  have r_n3 : v0.cell? ⟨g1, 3, none⟩ = some (.int .i64 0) := Hn_0.out.cell 3
  have r_n4 : v0.cell? ⟨g1, 4, none⟩ = some (.int .i64 0) := Hn_0.out.cell 4
  have r_n5 : v0.cell? ⟨g1, 5, none⟩ = some (.int .i64 0) := Hn_0.out.cell 5
  have r_n6 : v0.cell? ⟨g1, 6, none⟩ = some (.int .i64 0) := Hn_0.out.cell 6
  have z_r0 := Hr_0.out.frozen 0
  have z_r1 := Hr_0.out.frozen 1
  have z_r2 := Hr_0.out.frozen 2
  have z_r3 := Hr_0.out.frozen 3
  have z_r4 := Hr_0.out.frozen 4
  have z_r5 := Hr_0.out.frozen 5
  have z_r6 := Hr_0.out.frozen 6
  refine (kindRow_yes (some ⟨b, off, none⟩) 8 cap 1 [c, s, k, a, b_, x_, y_] v0 HS_0.out (by decide) HZ.out (by decide)).mono ?_
  rintro e v' ⟨rfl, rfl⟩
  go_wp2_with fail
  have T0 := Lib.hid (show Sl v0 1 (some ⟨b, off + 1, none⟩) 7 [c, s, k, a, b_, x_, y_] from sl_tail (k := 1) HS_0.out (by omega))
  refine (rowAsk1_any b (off + 1) (cap - 1) c s k a b_ x_ y_ v0 T0.out (by omega) (by unfold maxLen; omega)).mono ?_
  rintro e v1 ⟨rfl, b1⟩
  have f1 := bthen f0 b1
  have z1 := b1.size
  have HS_1 := Lib.hid (HS_0.out.below b1)
  have Hr_1 := Lib.hid (Hr_0.out.below b1)
  have Hn_1 := Lib.hid (Hn_0.out.below b1)
  clear lt_r r_r0 r_r1 r_r2 r_r3 r_r4 r_r5 r_r6 lt_n r_n0 r_n1 r_n2 r_n3 r_n4 r_n5 r_n6 z_r0 z_r1 z_r2 z_r3 z_r4 z_r5 z_r6
  clear HS_0 Hr_0 Hn_0
  clear T0
  have lt_r := Hr_1.out.lt
  have r_r0 : v1.cell? ⟨w.heap.size, 0, none⟩ = some (.int .i64 0) := Hr_1.out.cell 0
  have r_r1 : v1.cell? ⟨w.heap.size, 1, none⟩ = some (.int .i64 0) := Hr_1.out.cell 1
  have r_r2 : v1.cell? ⟨w.heap.size, 2, none⟩ = some (.int .i64 0) := Hr_1.out.cell 2
  have r_r3 : v1.cell? ⟨w.heap.size, 3, none⟩ = some (.int .i64 0) := Hr_1.out.cell 3
  have r_r4 : v1.cell? ⟨w.heap.size, 4, none⟩ = some (.int .i64 0) := Hr_1.out.cell 4
  have r_r5 : v1.cell? ⟨w.heap.size, 5, none⟩ = some (.int .i64 0) := Hr_1.out.cell 5
  have r_r6 : v1.cell? ⟨w.heap.size, 6, none⟩ = some (.int .i64 0) := Hr_1.out.cell 6
  have lt_n := Hn_1.out.lt
  have r_n0 : v1.cell? ⟨g1, 0, none⟩ = some (.int .i64 0) := Hn_1.out.cell 0
  have r_n1 : v1.cell? ⟨g1, 1, none⟩ = some (.int .i64 0) := Hn_1.out.cell 1
  have r_n2 : v1.cell? ⟨g1, 2, none⟩ = some (.int .i64 0) := Hn_1.out.cell 2
  have r_n3 : v1.cell? ⟨g1, 3, none⟩ = some (.int .i64 0) := Hn_1.out.cell 3
  have r_n4 : v1.cell? ⟨g1, 4, none⟩ = some (.int .i64 0) := Hn_1.out.cell 4
  have r_n5 : v1.cell? ⟨g1, 5, none⟩ = some (.int .i64 0) := Hn_1.out.cell 5
  have r_n6 : v1.cell? ⟨g1, 6, none⟩ = some (.int .i64 0) := Hn_1.out.cell 6
  have z_r0 := Hr_1.out.frozen 0
  have z_r1 := Hr_1.out.frozen 1
  have z_r2 := Hr_1.out.frozen 2
  have z_r3 := Hr_1.out.frozen 3
  have z_r4 := Hr_1.out.frozen 4
  have z_r5 := Hr_1.out.frozen 5
  have z_r6 := Hr_1.out.frozen 6
  go_upto_region 5 with fail
  obtain ⟨v2, hv2⟩ : ∃ x : World, x = (v1.alloc (.cells #[.int .i64 c, .int .i64 s, .int .i64 k, .int .i64 a, .int .i64 (b_), .int .i64 (x_), .int .i64 (y_)] 54)) := ⟨_, rfl⟩
  rw [← hv2]
  have f2 : Below w.heap.size w v2 := by rw [hv2]; (repeat' (first | (with_reducible exact Below.refl _ _) | (with_reducible assumption) | (with_reducible refine Below.alloc ?_ ?_ _) | (with_reducible refine Below.drew ?_) | (with_reducible refine Below.setCell ?_ ?_ _) | (with_reducible refine bstep (by assumption) ?_ ?_) | (with_reducible exact Nat.le_refl _) | omega | (simp [*]; done) | (simp [*]; omega)))
  have z2 : v1.heap.size + 1 ≤ v2.heap.size := by rw [hv2]; simp [size_set]
  have HS_2 : Hid (Sl v2 1 (some ⟨b, off, none⟩) 8 (1 :: [c, s, k, a, b_, x_, y_])) := by rw [hv2]; exact (HS_1.out).alloc _
  have Hr_2 : Hid (Blk v2 w.heap.size 54 #[.int .i64 0, .int .i64 0, .int .i64 0, .int .i64 0, .int .i64 0, .int .i64 0, .int .i64 0]) := by rw [hv2]; exact (Hr_1.out).alloc _
  have Hn_2 : Hid (Blk v2 g1 54 #[.int .i64 0, .int .i64 0, .int .i64 0, .int .i64 0, .int .i64 0, .int .i64 0, .int .i64 0]) := by rw [hv2]; exact (Hn_1.out).alloc _
  have Hl_2 : Hid (Blk v2 v1.heap.size 54 #[.int .i64 c, .int .i64 s, .int .i64 k, .int .i64 a, .int .i64 (b_), .int .i64 (x_), .int .i64 (y_)]) := by rw [hv2]; exact (Blk.new_at _ _ _ _ (by simp [size_set]))
  clear lt_r r_r0 r_r1 r_r2 r_r3 r_r4 r_r5 r_r6 lt_n r_n0 r_n1 r_n2 r_n3 r_n4 r_n5 r_n6 z_r0 z_r1 z_r2 z_r3 z_r4 z_r5 z_r6
  clear hv2 HS_1 Hr_1 Hn_1
  have lt_r := Hr_2.out.lt
  have r_r0 : v2.cell? ⟨w.heap.size, 0, none⟩ = some (.int .i64 0) := Hr_2.out.cell 0
  have r_r1 : v2.cell? ⟨w.heap.size, 1, none⟩ = some (.int .i64 0) := Hr_2.out.cell 1
  have r_r2 : v2.cell? ⟨w.heap.size, 2, none⟩ = some (.int .i64 0) := Hr_2.out.cell 2
  have r_r3 : v2.cell? ⟨w.heap.size, 3, none⟩ = some (.int .i64 0) := Hr_2.out.cell 3
  have r_r4 : v2.cell? ⟨w.heap.size, 4, none⟩ = some (.int .i64 0) := Hr_2.out.cell 4
  have r_r5 : v2.cell? ⟨w.heap.size, 5, none⟩ = some (.int .i64 0) := Hr_2.out.cell 5
  have r_r6 : v2.cell? ⟨w.heap.size, 6, none⟩ = some (.int .i64 0) := Hr_2.out.cell 6
  have lt_n := Hn_2.out.lt
  have r_n0 : v2.cell? ⟨g1, 0, none⟩ = some (.int .i64 0) := Hn_2.out.cell 0
  have r_n1 : v2.cell? ⟨g1, 1, none⟩ = some (.int .i64 0) := Hn_2.out.cell 1
  have r_n2 : v2.cell? ⟨g1, 2, none⟩ = some (.int .i64 0) := Hn_2.out.cell 2
  have r_n3 : v2.cell? ⟨g1, 3, none⟩ = some (.int .i64 0) := Hn_2.out.cell 3
  have r_n4 : v2.cell? ⟨g1, 4, none⟩ = some (.int .i64 0) := Hn_2.out.cell 4
  have r_n5 : v2.cell? ⟨g1, 5, none⟩ = some (.int .i64 0) := Hn_2.out.cell 5
  have r_n6 : v2.cell? ⟨g1, 6, none⟩ = some (.int .i64 0) := Hn_2.out.cell 6
  have lt_l := Hl_2.out.lt
  have r_l0 : v2.cell? ⟨v1.heap.size, 0, none⟩ = some (.int .i64 c) := Hl_2.out.cell 0
  have r_l1 : v2.cell? ⟨v1.heap.size, 1, none⟩ = some (.int .i64 s) := Hl_2.out.cell 1
  have r_l2 : v2.cell? ⟨v1.heap.size, 2, none⟩ = some (.int .i64 k) := Hl_2.out.cell 2
  have r_l3 : v2.cell? ⟨v1.heap.size, 3, none⟩ = some (.int .i64 a) := Hl_2.out.cell 3
  have r_l4 : v2.cell? ⟨v1.heap.size, 4, none⟩ = some (.int .i64 (b_)) := Hl_2.out.cell 4
  have r_l5 : v2.cell? ⟨v1.heap.size, 5, none⟩ = some (.int .i64 (x_)) := Hl_2.out.cell 5
  have r_l6 : v2.cell? ⟨v1.heap.size, 6, none⟩ = some (.int .i64 (y_)) := Hl_2.out.cell 6
  have z_r0 := Hr_2.out.frozen 0
  have z_r1 := Hr_2.out.frozen 1
  have z_r2 := Hr_2.out.frozen 2
  have z_r3 := Hr_2.out.frozen 3
  have z_r4 := Hr_2.out.frozen 4
  have z_r5 := Hr_2.out.frozen 5
  have z_r6 := Hr_2.out.frozen 6
  have T1 := Lib.hid (show Sl v2 1 (some ⟨b, off + 1, none⟩) 7 [c, s, k, a, b_, x_, y_] from sl_tail (k := 1) HS_2.out (by omega))
  have hS0 : ∀ b o, b < v2.heap.size → v2.cell? ⟨b, o, none⟩ = v2.cell? ⟨b, o, none⟩ := fun b o hb => rfl
  have cv : ∀ u, Calls Try.prog 73 #[.agg #[.int .i64 c, .int .i64 s, .int .i64 k, .int .i64 a, .int .i64 (b_), .int .i64 (x_), .int .i64 (y_)]] u fun e w1 => e = .returned (.bool true) ∧ Below u.heap.size u w1 := fun u => by
    have := askValid_any c s k a b_ x_ y_ u
    rw [HV.out] at this
    exact this
  go_region_held_law (fun w' => ∀ b o, b < v2.heap.size → w'.cell? ⟨b, o, none⟩ = v2.cell? ⟨b, o, none⟩) (repeat' (first | with_reducible assumption | with_reducible exact hS0 | with_reducible refine rd_drew ?_)) (first | (go_at_call 73; refine (cv _).mono ?_; rintro e u1 ⟨rfl, b1_⟩; have E1 : Below v2.heap.size v2 u1 := (by first | with_reducible exact b1_ | with_reducible exact sd_dr b1_); have hSu1 : ∀ b o, b < v2.heap.size → u1.cell? ⟨b, o, none⟩ = v2.cell? ⟨b, o, none⟩ := fun b o hb => E1.cell (p := ⟨b, o, none⟩) hb) | (go_at_call 72; refine (askFields_any c s k a b_ x_ y_ _).mono ?_; rintro e u2 ⟨A2, c2, rfl, R2, b2_⟩; have E2 := bthen E1 b2_; have hSu2 : ∀ b o, b < v2.heap.size → u2.cell? ⟨b, o, none⟩ = v2.cell? ⟨b, o, none⟩ := fun b o hb => E2.cell (p := ⟨b, o, none⟩) hb) | (go_at_call 38; refine (sameRow_yes A2 (some ⟨b, off + 1, none⟩) 7 c2 (cap - 1) [c, s, k, a, b_, x_, y_] _ R2.sl (T1.out.below E2) (by decide)).mono ?_; rintro e u3 ⟨rfl, b3_⟩; have E3 := bthen E2 b3_; have hSu3 : ∀ b o, b < v2.heap.size → u3.cell? ⟨b, o, none⟩ = v2.cell? ⟨b, o, none⟩ := fun b o hb => E3.cell (p := ⟨b, o, none⟩) hb; have Kr := Hr_2.out.below E3; have Kl := Hl_2.out.below E3; have krb0 := Kr.cell 0; have krf0 := Kr.frozen 0; have krb1 := Kr.cell 1; have krf1 := Kr.frozen 1; have krb2 := Kr.cell 2; have krf2 := Kr.frozen 2; have krb3 := Kr.cell 3; have krf3 := Kr.frozen 3; have krb4 := Kr.cell 4; have krf4 := Kr.frozen 4; have krb5 := Kr.cell 5; have krf5 := Kr.frozen 5; have krb6 := Kr.cell 6; have krf6 := Kr.frozen 6; have krl := Kr.lt; have klb0 := Kl.cell 0; have klf0 := Kl.frozen 0; have klb1 := Kl.cell 1; have klf1 := Kl.frozen 1; have klb2 := Kl.cell 2; have klf2 := Kl.frozen 2; have klb3 := Kl.cell 3; have klf3 := Kl.frozen 3; have klb4 := Kl.cell 4; have klf4 := Kl.frozen 4; have klb5 := Kl.cell 5; have klf5 := Kl.frozen 5; have klb6 := Kl.cell 6; have klf6 := Kl.frozen 6; have kll := Kl.lt))
  all_goals
    go_wp21
    refine bodyPost_ret (v := .tuple #[.agg #[.int .i64 c, .int .i64 s, .int .i64 k, .int .i64 a, .int .i64 (b_), .int .i64 (x_), .int .i64 (y_)], .bool true]) (by simp [results, Try.results28, go_sem, *]) rfl ?_
    exact ⟨rfl, ((((((((bthen f2 E3)).setCell (p := ⟨w.heap.size, 0, none⟩) (Nat.le_refl _) _).setCell (p := ⟨w.heap.size, 1, none⟩) (Nat.le_refl _) _).setCell (p := ⟨w.heap.size, 2, none⟩) (Nat.le_refl _) _).setCell (p := ⟨w.heap.size, 3, none⟩) (Nat.le_refl _) _).setCell (p := ⟨w.heap.size, 4, none⟩) (Nat.le_refl _) _).setCell (p := ⟨w.heap.size, 5, none⟩) (Nat.le_refl _) _).setCell (p := ⟨w.heap.size, 6, none⟩) (Nat.le_refl _) _⟩
set_option maxHeartbeats 1000000 in
theorem rowRead_yes (b off cap : Nat) (c s k l : Int) (w : World) (hS : Sl w 1 (some ⟨b, off, none⟩) 5 [6, c, s, k, l]) (hcap : 5 ≤ cap) (hcm : cap ≤ maxLen) (h : readB c s k l = true) :
    Calls Try.prog 13 #[.slice (some ⟨b, off, none⟩) 5 cap] w fun e w' => e = .returned (.tuple #[.agg #[.int .i64 c, .int .i64 s, .int .i64 k, .int .i64 l], .bool true]) ∧ Below w.heap.size w w' := by
  have HS := Lib.hid hS
  have HV := Lib.hid h
  clear hS h
  go_enter Try.func13, Try.ntmps13
  go_wp2_with fail
  refine calls_named ?_
  rintro v hv
  have f0 : Below w.heap.size w v := by rw [hv]; (repeat' (first | (with_reducible exact Below.refl _ _) | (with_reducible assumption) | (with_reducible refine Below.alloc ?_ ?_ _) | (with_reducible refine Below.drew ?_) | (with_reducible refine Below.setCell ?_ ?_ _) | (with_reducible refine bstep (by assumption) ?_ ?_) | (with_reducible exact Nat.le_refl _) | omega | (simp [*]; done) | (simp [*]; omega)))
  have K : Hid (Blk v w.heap.size 47 #[.int .i64 0, .int .i64 0, .int .i64 0, .int .i64 0]) := by rw [hv]; exact Blk.new _ _ _
  clear hv
  refine (decRead_yes b off cap c s k l v (HS.out.below f0) hcap hcm HV.out).mono ?_
  rintro e v1 ⟨rfl, b1⟩
  have K1 := K.out.below b1
  have kc0 := K1.cell 0
  have kz0 := K1.frozen 0
  have kc1 := K1.cell 1
  have kz1 := K1.frozen 1
  have kc2 := K1.cell 2
  have kz2 := K1.frozen 2
  have kc3 := K1.cell 3
  have kz3 := K1.frozen 3
  have lk := K1.lt
  go_wp21
  refine bodyPost_ret (v := .tuple #[.agg #[.int .i64 c, .int .i64 s, .int .i64 k, .int .i64 l], .bool true]) (by simp [results, Try.results13, go_sem, *]) rfl ?_
  exact ⟨rfl, (((((bthen f0 b1)).setCell (p := ⟨w.heap.size, 0, none⟩) (Nat.le_refl _) _).setCell (p := ⟨w.heap.size, 1, none⟩) (Nat.le_refl _) _).setCell (p := ⟨w.heap.size, 2, none⟩) (Nat.le_refl _) _).setCell (p := ⟨w.heap.size, 3, none⟩) (Nat.le_refl _) _⟩
set_option maxHeartbeats 1000000 in
theorem rowAsk_yes (b off cap : Nat) (c s k a b_ x_ y_ : Int) (w : World) (hS : Sl w 1 (some ⟨b, off, none⟩) 8 [1, c, s, k, a, b_, x_, y_]) (hcap : 8 ≤ cap) (hcm : cap ≤ maxLen) (h : askB c s k a b_ x_ y_ = true) :
    Calls Try.prog 15 #[.slice (some ⟨b, off, none⟩) 8 cap] w fun e w' => e = .returned (.tuple #[.agg #[.int .i64 c, .int .i64 s, .int .i64 k, .int .i64 a, .int .i64 (b_), .int .i64 (x_), .int .i64 (y_)], .bool true]) ∧ Below w.heap.size w w' := by
  have HS := Lib.hid hS
  have HV := Lib.hid h
  clear hS h
  go_enter Try.func15, Try.ntmps15
  go_wp2_with fail
  refine calls_named ?_
  rintro v hv
  have f0 : Below w.heap.size w v := by rw [hv]; (repeat' (first | (with_reducible exact Below.refl _ _) | (with_reducible assumption) | (with_reducible refine Below.alloc ?_ ?_ _) | (with_reducible refine Below.drew ?_) | (with_reducible refine Below.setCell ?_ ?_ _) | (with_reducible refine bstep (by assumption) ?_ ?_) | (with_reducible exact Nat.le_refl _) | omega | (simp [*]; done) | (simp [*]; omega)))
  have K : Hid (Blk v w.heap.size 54 #[.int .i64 0, .int .i64 0, .int .i64 0, .int .i64 0, .int .i64 0, .int .i64 0, .int .i64 0]) := by rw [hv]; exact Blk.new _ _ _
  clear hv
  refine (decAsk_yes b off cap c s k a b_ x_ y_ v (HS.out.below f0) hcap hcm HV.out).mono ?_
  rintro e v1 ⟨rfl, b1⟩
  have K1 := K.out.below b1
  have kc0 := K1.cell 0
  have kz0 := K1.frozen 0
  have kc1 := K1.cell 1
  have kz1 := K1.frozen 1
  have kc2 := K1.cell 2
  have kz2 := K1.frozen 2
  have kc3 := K1.cell 3
  have kz3 := K1.frozen 3
  have kc4 := K1.cell 4
  have kz4 := K1.frozen 4
  have kc5 := K1.cell 5
  have kz5 := K1.frozen 5
  have kc6 := K1.cell 6
  have kz6 := K1.frozen 6
  have lk := K1.lt
  go_wp21
  refine bodyPost_ret (v := .tuple #[.agg #[.int .i64 c, .int .i64 s, .int .i64 k, .int .i64 a, .int .i64 (b_), .int .i64 (x_), .int .i64 (y_)], .bool true]) (by simp [results, Try.results15, go_sem, *]) rfl ?_
  exact ⟨rfl, ((((((((bthen f0 b1)).setCell (p := ⟨w.heap.size, 0, none⟩) (Nat.le_refl _) _).setCell (p := ⟨w.heap.size, 1, none⟩) (Nat.le_refl _) _).setCell (p := ⟨w.heap.size, 2, none⟩) (Nat.le_refl _) _).setCell (p := ⟨w.heap.size, 3, none⟩) (Nat.le_refl _) _).setCell (p := ⟨w.heap.size, 4, none⟩) (Nat.le_refl _) _).setCell (p := ⟨w.heap.size, 5, none⟩) (Nat.le_refl _) _).setCell (p := ⟨w.heap.size, 6, none⟩) (Nat.le_refl _) _⟩
theorem nodeOk_any (x : Int) (w : World) : Calls Try.prog 35 #[.int .i64 x] w fun e w' => e = .returned (.bool (inB x 0 5)) ∧ w = w' := by
  go_enter Try.func35, Try.ntmps35
  go_wp2_with ((go_at_call 36; refine (between_any _ _ _ _).mono ?_; rintro e w' ⟨rfl, rfl⟩))
  go_ret; exact ⟨rfl, rfl⟩
theorem apart_yes (a b : Int) (w : World) (ha : 0 ≤ a ∧ a ≤ 5) (hb : 0 ≤ b ∧ b ≤ 5) (hab : a ≠ b) : Calls Try.prog 21 #[.int .i64 a, .int .i64 b] w fun e w' => e = .returned (.bool true) ∧ w = w' := by
  have c1 := nodeOk_any a w
  have c2 := nodeOk_any b w
  rw [show inB a 0 5 = true from (inB_iff _ _ _).2 ha] at c1
  rw [show inB b 0 5 = true from (inB_iff _ _ _).2 hb] at c2
  have hbq : (a == b) = false := by simpa using hab
  have hbn : (a != b) = true := by simpa using hab
  clear ha hb
  go_enter Try.func21, Try.ntmps21
  go_wp2_with fail
  refine c1.mono ?_
  rintro e w' ⟨rfl, rfl⟩
  go_wp2_with fail
  refine c2.mono ?_
  rintro e w' ⟨rfl, rfl⟩
  go_wp2
  go_ret
  exact ⟨rfl, rfl⟩
set_option maxHeartbeats 1000000 in
theorem msgOk_yes (f t : Int) (R : Option Addr) (n c : Nat) (zs : List Int) (w : World) (hf : 0 ≤ f ∧ f ≤ 5) (ht : 0 ≤ t ∧ t ≤ 5) (hft : f ≠ t) (hS : Sl w 1 R n zs) (hn0 : 0 < n) (hn : n ≤ 48) (hz : numsB zs) :
    Calls Try.prog 10 #[.agg #[.int .i64 f, .int .i64 t, .slice R n c]] w fun e w' => e = .returned (.bool true) ∧ Below w.heap.size w w' := by
  have HS := Lib.hid hS
  have HZ := Lib.hid hz
  have HA := Lib.hid (And.intro hf (And.intro ht hft))
  have hni : (0 : Int) < (n : Int) := by omega
  clear hS hz hf ht hft
  go_enter Try.func10, Try.ntmps10
  go_wp2_with fail
  refine calls_named ?_
  rintro v hv
  have f0 : Below w.heap.size w v := by rw [hv]; (repeat' (first | (with_reducible exact Below.refl _ _) | (with_reducible assumption) | (with_reducible refine Below.alloc ?_ ?_ _) | (with_reducible refine Below.drew ?_) | (with_reducible refine Below.setCell ?_ ?_ _) | (with_reducible refine bstep (by assumption) ?_ ?_) | (with_reducible exact Nat.le_refl _) | omega | (simp [*]; done) | (simp [*]; omega)))
  have K : Blk v w.heap.size 38 #[.int .i64 f, .int .i64 t, .slice R n c] := by rw [hv]; exact Blk.new _ _ _
  have S1 := Lib.hid (HS.out.below f0)
  clear hv
  have lk := K.lt
  have k0 := K.cell 0
  have k1 := K.cell 1
  have k2 := K.cell 2
  simp only [List.getElem?_toArray, List.getElem?_cons_zero, List.getElem?_cons_succ] at k0 k1 k2
  clear K
  refine (apart_yes f t v HA.out.1 HA.out.2.1 HA.out.2.2).mono ?_
  rintro e w' ⟨rfl, rfl⟩
  go_wp2_with fail
  refine (rowOk_yes R n c zs v S1.out hn HZ.out).mono ?_
  rintro e w' ⟨rfl, rfl⟩
  go_wp2
  go_ret
  exact ⟨rfl, f0⟩
end Go.Proofs.Ytckbnfgdjdppfaa
