/- JobAt: the walks. -/
import Derived.Test.YtgpllffiahccjaaJ4
import Derived.Test.YtgpllffiahccjaaMem
namespace Go.Proofs.Ytgpllffiahccjaa
set_option linter.unusedSimpArgs false
set_option linter.unusedVariables false
attribute [local go_sem] n_lt2 n_lt3 n_lt4 n_le2 n_le3
open Go.RowKit
attribute [local go_sem] Ext.cell Ext.frozen
set_option maxHeartbeats 1000000 in
theorem jobAtV_any (A : Option Addr) (n cap : Nat) (l : List Jb) (key : Int) (w : World) (hS : Sl w 5 A n (JB l)) (hl : l.length = n) (hn : n ≤ maxLen) :
    Calls Try.prog 112 #[.slice A n cap, .int .i64 key] w fun e' w' => e' = .returned (.tuple #[.agg #[.int .i64 (jobAtV l key).1.i, .int .i64 (jobAtV l key).1.d, .int .i64 (jobAtV l key).1.k, .int .i64 (jobAtV l key).1.v, .int .i64 (jobAtV l key).1.f], .bool (jobAtV l key).2]) ∧ Below w.heap.size w w' := by
  by_cases hk : jobIx l key < l.length
  · have hv : jobAtV l key = (l.getD (jobIx l key) default, true) := by unfold jobAtV; rw [if_pos hk]
    have ha : placeJ l key = (jobIx l key : Int) := by unfold placeJ; rw [if_pos hk]
    rw [hv]
    generalize jobIx l key = k at hk ha
    rw [hl] at hk
    obtain ⟨b, off, rfl, hb, hcell⟩ := sl_jobs hS (by omega)
    obtain ⟨h0, h1, h2, h3, h4⟩ := hcell k hk
    clear hcell hv
    generalize l.getD k default = pk at h0 h1 h2 h3 h4
    obtain ⟨x0, x1, x2, x3, x4⟩ := pk
    simp only at h0 h1 h2 h3 h4
    have hn' := hn
    unfold maxLen at hn'
    go_enter Try.func112, Try.ntmps112
    go_wp2_with fail
    refine calls_named ?_
    rintro w0 hw0
    have K0 : Blk w0 w.heap.size 68 #[.int .i64 0, .int .i64 0, .int .i64 0, .int .i64 0, .int .i64 0] := by rw [hw0]; exact Blk.new _ _ _
    have b0 : Below w.heap.size w w0 := by rw [hw0]; (repeat' (first | (with_reducible exact Below.refl _ _) | (with_reducible assumption) | (with_reducible refine Below.alloc ?_ ?_ _) | (with_reducible refine Below.drew ?_) | (with_reducible refine Below.setCell ?_ ?_ _) | (with_reducible refine bstep (by assumption) ?_ ?_) | (with_reducible exact Nat.le_refl _) | omega | (simp [*]; done) | (simp [*]; omega)))
    clear hw0
    have c1 := placeJob_any (some ⟨b, off, none⟩) n cap l key w0 (hS.below b0) hl hn
    rw [ha] at c1
    refine c1.mono ?_
    rintro e w1 ⟨rfl, b1⟩
    have K1 := K0.below b1
    have f1 := bthen b0 b1
    rw [← f1.cell (by exact hb)] at h0 h1 h2 h3 h4
    have hbr : b < w1.heap.size := Nat.lt_of_lt_of_le hb f1.size
    have hk0 : (k : Int) < (n : Int) := by omega
    clear c1 ha K0 hS
    have lt1 := K1.lt
    have q0 : w1.cell? ⟨w.heap.size, 0, none⟩ = some (.int .i64 0) := K1.cell 0
    have q1 : w1.cell? ⟨w.heap.size, 1, none⟩ = some (.int .i64 0) := K1.cell 1
    have q2 : w1.cell? ⟨w.heap.size, 2, none⟩ = some (.int .i64 0) := K1.cell 2
    have q3 : w1.cell? ⟨w.heap.size, 3, none⟩ = some (.int .i64 0) := K1.cell 3
    have q4 : w1.cell? ⟨w.heap.size, 4, none⟩ = some (.int .i64 0) := K1.cell 4
    have qf : ∀ o, w1.frozen? ⟨w.heap.size, o, none⟩ = false := fun o => K1.frozen o
    clear K1
    go_wp2
    refine bodyPost_ret (v := .tuple #[.agg #[.int .i64 x0, .int .i64 x1, .int .i64 x2, .int .i64 x3, .int .i64 x4], .bool true]) (by simp [results, Try.results112, go_sem, *]) rfl ⟨rfl, by (repeat' (first | (with_reducible exact Below.refl _ _) | (with_reducible assumption) | (with_reducible refine Below.alloc ?_ ?_ _) | (with_reducible refine Below.drew ?_) | (with_reducible refine Below.setCell ?_ ?_ _) | (with_reducible refine bstep (by assumption) ?_ ?_) | (with_reducible exact Nat.le_refl _) | omega | (simp [*]; done) | (simp [*]; omega)))⟩
  · have hv : jobAtV l key = (default, false) := by unfold jobAtV; rw [if_neg hk]
    have ha : placeJ l key = -1 := by unfold placeJ; rw [if_neg hk]
    rw [hv]
    go_enter Try.func112, Try.ntmps112
    go_wp2_with fail
    refine calls_named ?_
    rintro w0 hw0
    have K0 : Blk w0 w.heap.size 68 #[.int .i64 0, .int .i64 0, .int .i64 0, .int .i64 0, .int .i64 0] := by rw [hw0]; exact Blk.new _ _ _
    have b0 : Below w.heap.size w w0 := by rw [hw0]; (repeat' (first | (with_reducible exact Below.refl _ _) | (with_reducible assumption) | (with_reducible refine Below.alloc ?_ ?_ _) | (with_reducible refine Below.drew ?_) | (with_reducible refine Below.setCell ?_ ?_ _) | (with_reducible refine bstep (by assumption) ?_ ?_) | (with_reducible exact Nat.le_refl _) | omega | (simp [*]; done) | (simp [*]; omega)))
    clear hw0
    have c1 := placeJob_any A n cap l key w0 (hS.below b0) hl hn
    rw [ha] at c1
    refine c1.mono ?_
    rintro e w1 ⟨rfl, b1⟩
    have K1 := K0.below b1
    have f1 := bthen b0 b1
    have lt1 := K1.lt
    have q0 : w1.cell? ⟨w.heap.size, 0, none⟩ = some (.int .i64 0) := K1.cell 0
    have q1 : w1.cell? ⟨w.heap.size, 1, none⟩ = some (.int .i64 0) := K1.cell 1
    have q2 : w1.cell? ⟨w.heap.size, 2, none⟩ = some (.int .i64 0) := K1.cell 2
    have q3 : w1.cell? ⟨w.heap.size, 3, none⟩ = some (.int .i64 0) := K1.cell 3
    have q4 : w1.cell? ⟨w.heap.size, 4, none⟩ = some (.int .i64 0) := K1.cell 4
    have qf : ∀ o, w1.frozen? ⟨w.heap.size, o, none⟩ = false := fun o => K1.frozen o
    clear K1
    go_wp2
    refine bodyPost_ret (v := .tuple #[.agg #[.int .i64 0, .int .i64 0, .int .i64 0, .int .i64 0, .int .i64 0], .bool false]) (by simp [results, Try.results112, go_sem, *]) rfl ⟨rfl, by (repeat' (first | (with_reducible exact Below.refl _ _) | (with_reducible assumption) | (with_reducible refine Below.alloc ?_ ?_ _) | (with_reducible refine Below.drew ?_) | (with_reducible refine Below.setCell ?_ ?_ _) | (with_reducible refine bstep (by assumption) ?_ ?_) | (with_reducible exact Nat.le_refl _) | omega | (simp [*]; done) | (simp [*]; omega)))⟩
set_option maxHeartbeats 1000000 in
theorem jobAtR_any (A : Option Addr) (n cap : Nat) (l : List Jb) (key : Int) (w : World) (hS : Sl w 5 A n (JB l)) (hl : l.length = n) (hn : n ≤ maxLen) :
    Calls Try.prog 48 #[.slice A n cap, .int .i64 key] w fun e' w' => e' = .returned (.tuple #[.agg #[.int .i64 (jobAtR l key).1.i, .int .i64 (jobAtR l key).1.d, .int .i64 (jobAtR l key).1.k, .int .i64 (jobAtR l key).1.v, .int .i64 (jobAtR l key).1.f], .bool (jobAtR l key).2]) ∧ Below w.heap.size w w' := by
  by_cases hk : jobsB l = true
  · have hv : jobAtR l key = jobAtV l key := by unfold jobAtR; rw [if_pos hk]
    rw [hv]
    obtain ⟨⟨⟨x0, x1, x2, x3, x4⟩, u⟩, hva⟩ : ∃ v, jobAtV l key = v := ⟨_, rfl⟩
    rw [hva]
    go_enter Try.func48, Try.ntmps48
    go_wp2_with fail
    refine calls_named ?_
    rintro w0 hw0
    have K0 : Blk w0 w.heap.size 68 #[.int .i64 0, .int .i64 0, .int .i64 0, .int .i64 0, .int .i64 0] := by rw [hw0]; exact Blk.new _ _ _
    have b0 : Below w.heap.size w w0 := by rw [hw0]; (repeat' (first | (with_reducible exact Below.refl _ _) | (with_reducible assumption) | (with_reducible refine Below.alloc ?_ ?_ _) | (with_reducible refine Below.drew ?_) | (with_reducible refine Below.setCell ?_ ?_ _) | (with_reducible refine bstep (by assumption) ?_ ?_) | (with_reducible exact Nat.le_refl _) | omega | (simp [*]; done) | (simp [*]; omega)))
    clear hw0
    have c1 := jobsOk_any A n cap l w0 (hS.below b0) hl hn
    rw [hk] at c1
    refine c1.mono ?_
    rintro e w2 ⟨rfl, b2⟩
    have f2 := bthen b0 b2
    have c2 := jobAtV_any A n cap l key w2 (hS.below f2) hl hn
    rw [hva] at c2
    go_wp2_with fail
    refine c2.mono ?_
    rintro e w1 ⟨rfl, b1⟩
    have K1 := (K0.below b2).below b1
    have f1 := bthen f2 b1
    clear c1 c2 hk hv hva
    have lt1 := K1.lt
    have q0 : w1.cell? ⟨w.heap.size, 0, none⟩ = some (.int .i64 0) := K1.cell 0
    have q1 : w1.cell? ⟨w.heap.size, 1, none⟩ = some (.int .i64 0) := K1.cell 1
    have q2 : w1.cell? ⟨w.heap.size, 2, none⟩ = some (.int .i64 0) := K1.cell 2
    have q3 : w1.cell? ⟨w.heap.size, 3, none⟩ = some (.int .i64 0) := K1.cell 3
    have q4 : w1.cell? ⟨w.heap.size, 4, none⟩ = some (.int .i64 0) := K1.cell 4
    have qf : ∀ o, w1.frozen? ⟨w.heap.size, o, none⟩ = false := fun o => K1.frozen o
    clear K1
    go_wp2
    refine bodyPost_ret (v := .tuple #[.agg #[.int .i64 x0, .int .i64 x1, .int .i64 x2, .int .i64 x3, .int .i64 x4], .bool u]) (by simp [results, Try.results48, go_sem, *]) rfl ⟨rfl, by (repeat' (first | (with_reducible exact Below.refl _ _) | (with_reducible assumption) | (with_reducible refine Below.alloc ?_ ?_ _) | (with_reducible refine Below.drew ?_) | (with_reducible refine Below.setCell ?_ ?_ _) | (with_reducible refine bstep (by assumption) ?_ ?_) | (with_reducible exact Nat.le_refl _) | omega | (simp [*]; done) | (simp [*]; omega)))⟩
  · have hk' : jobsB l = false := by simpa using hk
    have hv : jobAtR l key = (default, false) := by unfold jobAtR; rw [if_neg hk]
    rw [hv]
    go_enter Try.func48, Try.ntmps48
    go_wp2_with fail
    refine calls_named ?_
    rintro w0 hw0
    have K0 : Blk w0 w.heap.size 68 #[.int .i64 0, .int .i64 0, .int .i64 0, .int .i64 0, .int .i64 0] := by rw [hw0]; exact Blk.new _ _ _
    have b0 : Below w.heap.size w w0 := by rw [hw0]; (repeat' (first | (with_reducible exact Below.refl _ _) | (with_reducible assumption) | (with_reducible refine Below.alloc ?_ ?_ _) | (with_reducible refine Below.drew ?_) | (with_reducible refine Below.setCell ?_ ?_ _) | (with_reducible refine bstep (by assumption) ?_ ?_) | (with_reducible exact Nat.le_refl _) | omega | (simp [*]; done) | (simp [*]; omega)))
    clear hw0
    have c1 := jobsOk_any A n cap l w0 (hS.below b0) hl hn
    rw [hk'] at c1
    refine c1.mono ?_
    rintro e w1 ⟨rfl, b1⟩
    have K1 := K0.below b1
    have f1 := bthen b0 b1
    clear c1 hk hk' hv
    have lt1 := K1.lt
    have q0 : w1.cell? ⟨w.heap.size, 0, none⟩ = some (.int .i64 0) := K1.cell 0
    have q1 : w1.cell? ⟨w.heap.size, 1, none⟩ = some (.int .i64 0) := K1.cell 1
    have q2 : w1.cell? ⟨w.heap.size, 2, none⟩ = some (.int .i64 0) := K1.cell 2
    have q3 : w1.cell? ⟨w.heap.size, 3, none⟩ = some (.int .i64 0) := K1.cell 3
    have q4 : w1.cell? ⟨w.heap.size, 4, none⟩ = some (.int .i64 0) := K1.cell 4
    have qf : ∀ o, w1.frozen? ⟨w.heap.size, o, none⟩ = false := fun o => K1.frozen o
    clear K1
    go_wp2
    refine bodyPost_ret (v := .tuple #[.agg #[.int .i64 0, .int .i64 0, .int .i64 0, .int .i64 0, .int .i64 0], .bool false]) (by simp [results, Try.results48, go_sem, *]) rfl ⟨rfl, by (repeat' (first | (with_reducible exact Below.refl _ _) | (with_reducible assumption) | (with_reducible refine Below.alloc ?_ ?_ _) | (with_reducible refine Below.drew ?_) | (with_reducible refine Below.setCell ?_ ?_ _) | (with_reducible refine bstep (by assumption) ?_ ?_) | (with_reducible exact Nat.le_refl _) | omega | (simp [*]; done) | (simp [*]; omega)))⟩
set_option maxHeartbeats 1000000 in
theorem specJobAt_any (A : Option Addr) (n cap : Nat) (l : List Jb) (key : Int) (w : World) (hS : Sl w 5 A n (JB l)) (hl : l.length = n) (hn : n ≤ maxLen) :
    Calls Try.prog 173 #[.slice A n cap, .int .i64 key] w fun e' w' => e' = .returned (.tuple #[.agg #[.int .i64 (jobAtR l key).1.i, .int .i64 (jobAtR l key).1.d, .int .i64 (jobAtR l key).1.k, .int .i64 (jobAtR l key).1.v, .int .i64 (jobAtR l key).1.f], .bool (jobAtR l key).2]) ∧ Below w.heap.size w w' := by
  by_cases hk : jobsB l = true
  · have hv : jobAtR l key = jobAtV l key := by unfold jobAtR; rw [if_pos hk]
    rw [hv]
    clear hv
    go_enter Try.func173, Try.ntmps173
    go_wp2_with fail
    refine calls_named ?_
    rintro w0 hw0
    have K0 : Blk w0 w.heap.size 68 #[.int .i64 0, .int .i64 0, .int .i64 0, .int .i64 0, .int .i64 0] := by rw [hw0]; exact Blk.new _ _ _
    have b0 : Below w.heap.size w w0 := by rw [hw0]; (repeat' (first | (with_reducible exact Below.refl _ _) | (with_reducible assumption) | (with_reducible refine Below.alloc ?_ ?_ _) | (with_reducible refine Below.drew ?_) | (with_reducible refine Below.setCell ?_ ?_ _) | (with_reducible refine bstep (by assumption) ?_ ?_) | (with_reducible exact Nat.le_refl _) | omega | (simp [*]; done) | (simp [*]; omega)))
    clear hw0
    have c1 := specJobsOk_any A n cap l w0 (hS.below b0) hl hn
    rw [hk] at c1
    refine c1.mono ?_
    rintro e w1 ⟨rfl, b1⟩
    have K1 := Lib.hid (K0.below b1)
    have f1 := bthen b0 b1
    unfold maxLen at hn
    have hL := Lib.hid hl
    have HS := Lib.hid hS
    clear c1 hk hl hS K0
    have hlo1 : w.heap.size < w1.heap.size := K1.out.lt
    go_wp2
    go_loopw [6] (fun i wr => ∃ k : Nat, k ≤ n ∧ i = .int .i64 k ∧ Below w.heap.size w wr ∧ Hid (wr = w1) ∧ Hid (∀ j, j < k → (l.getD j default).i ≠ key)) (fun i _ => n - (intOf i).toNat)
    case atStart => exact ⟨0, Nat.zero_le _, rfl, f1, by first | exact Lib.hid rfl | exact Lib.hid trivial, fun j hj => absurd hj (by omega)⟩
    case round =>
      obtain ⟨k, hk, rfl, hbl, hww, hall⟩ := hrel
      have hw1 := hww.out
      subst hw1
      by_cases hlt : k < n
      · obtain ⟨b, off, rfl, hb, hcell⟩ := sl_jobs HS.out (by omega)
        obtain ⟨h0, h1, h2, h3, h4⟩ := hcell k hlt
        clear hcell
        rw [← hbl.cell (by exact hb)] at h0 h1 h2 h3 h4
        generalize hpk : l.getD k default = pk at h0 h1 h2 h3 h4
        obtain ⟨x0, x1, x2, x3, x4⟩ := pk
        simp only at h0 h1 h2 h3 h4
        have H := Lib.hid hpk
        clear hpk
        have hbr : b < wr.heap.size := Nat.lt_of_lt_of_le hb hbl.size
        by_cases hx : x0 = key
        · subst hx
          have hva : jobAtV l x0 = (⟨x0, x1, x2, x3, x4⟩, true) := by rw [jobAtV_some (hL.out.symm ▸ hlt) hall.out (by rw [H.out]), H.out]
          have HV := Lib.hid hva
          clear hva
          have K1 := K1.out
          have lt1 := K1.lt
          have q0 : wr.cell? ⟨w.heap.size, 0, none⟩ = some (.int .i64 0) := K1.cell 0
          have q1 : wr.cell? ⟨w.heap.size, 1, none⟩ = some (.int .i64 0) := K1.cell 1
          have q2 : wr.cell? ⟨w.heap.size, 2, none⟩ = some (.int .i64 0) := K1.cell 2
          have q3 : wr.cell? ⟨w.heap.size, 3, none⟩ = some (.int .i64 0) := K1.cell 3
          have q4 : wr.cell? ⟨w.heap.size, 4, none⟩ = some (.int .i64 0) := K1.cell 4
          have qf : ∀ o, wr.frozen? ⟨w.heap.size, o, none⟩ = false := fun o => K1.frozen o
          clear K1
          go_wp2
          refine bodyPost_ret (v := .tuple #[.agg #[.int .i64 x0, .int .i64 x1, .int .i64 x2, .int .i64 x3, .int .i64 x4], .bool true]) (by simp [results, Try.results173, go_sem, *]) rfl ⟨by rw [HV.out], by (repeat' (first | (with_reducible exact Below.refl _ _) | (with_reducible assumption) | (with_reducible refine Below.alloc ?_ ?_ _) | (with_reducible refine Below.drew ?_) | (with_reducible refine Below.setCell ?_ ?_ _) | (with_reducible refine bstep (by assumption) ?_ ?_) | (with_reducible exact Nat.le_refl _) | omega | (simp [*]; done) | (simp [*]; omega)))⟩
        · have hx' : (x0 == key) = false := by simpa using hx
          go_wp2
          exact ⟨⟨k + 1, by omega, by go_num, hbl, by first | exact Lib.hid rfl | exact Lib.hid trivial, below_uptoJ hall.out (by rw [H.out]; exact hx)⟩, by simp [intOf]; omega⟩
      · have hkn : k = n := by omega
        subst hkn
        have HV := Lib.hid (show jobAtV l key = (default, false) from jobAtV_none (hL.out.symm ▸ hall.out))
        have K1 := K1.out
        have lt1 := K1.lt
        have q0 : wr.cell? ⟨w.heap.size, 0, none⟩ = some (.int .i64 0) := K1.cell 0
        have q1 : wr.cell? ⟨w.heap.size, 1, none⟩ = some (.int .i64 0) := K1.cell 1
        have q2 : wr.cell? ⟨w.heap.size, 2, none⟩ = some (.int .i64 0) := K1.cell 2
        have q3 : wr.cell? ⟨w.heap.size, 3, none⟩ = some (.int .i64 0) := K1.cell 3
        have q4 : wr.cell? ⟨w.heap.size, 4, none⟩ = some (.int .i64 0) := K1.cell 4
        have qf : ∀ o, wr.frozen? ⟨w.heap.size, o, none⟩ = false := fun o => K1.frozen o
        clear K1
        go_wp2
        refine bodyPost_ret (v := .tuple #[.agg #[.int .i64 0, .int .i64 0, .int .i64 0, .int .i64 0, .int .i64 0], .bool false]) (by simp [results, Try.results173, go_sem, *]) rfl ⟨by rw [HV.out]; rfl, by (repeat' (first | (with_reducible exact Below.refl _ _) | (with_reducible assumption) | (with_reducible refine Below.alloc ?_ ?_ _) | (with_reducible refine Below.drew ?_) | (with_reducible refine Below.setCell ?_ ?_ _) | (with_reducible refine bstep (by assumption) ?_ ?_) | (with_reducible exact Nat.le_refl _) | omega | (simp [*]; done) | (simp [*]; omega)))⟩
  · have hk' : jobsB l = false := by simpa using hk
    have hv : jobAtR l key = (default, false) := by unfold jobAtR; rw [if_neg hk]
    rw [hv]
    go_enter Try.func173, Try.ntmps173
    go_wp2_with fail
    refine calls_named ?_
    rintro w0 hw0
    have K0 : Blk w0 w.heap.size 68 #[.int .i64 0, .int .i64 0, .int .i64 0, .int .i64 0, .int .i64 0] := by rw [hw0]; exact Blk.new _ _ _
    have b0 : Below w.heap.size w w0 := by rw [hw0]; (repeat' (first | (with_reducible exact Below.refl _ _) | (with_reducible assumption) | (with_reducible refine Below.alloc ?_ ?_ _) | (with_reducible refine Below.drew ?_) | (with_reducible refine Below.setCell ?_ ?_ _) | (with_reducible refine bstep (by assumption) ?_ ?_) | (with_reducible exact Nat.le_refl _) | omega | (simp [*]; done) | (simp [*]; omega)))
    clear hw0
    have c1 := specJobsOk_any A n cap l w0 (hS.below b0) hl hn
    rw [hk'] at c1
    refine c1.mono ?_
    rintro e w1 ⟨rfl, b1⟩
    have K1 := K0.below b1
    have f1 := bthen b0 b1
    clear c1 hk hk' hv
    have lt1 := K1.lt
    have q0 : w1.cell? ⟨w.heap.size, 0, none⟩ = some (.int .i64 0) := K1.cell 0
    have q1 : w1.cell? ⟨w.heap.size, 1, none⟩ = some (.int .i64 0) := K1.cell 1
    have q2 : w1.cell? ⟨w.heap.size, 2, none⟩ = some (.int .i64 0) := K1.cell 2
    have q3 : w1.cell? ⟨w.heap.size, 3, none⟩ = some (.int .i64 0) := K1.cell 3
    have q4 : w1.cell? ⟨w.heap.size, 4, none⟩ = some (.int .i64 0) := K1.cell 4
    have qf : ∀ o, w1.frozen? ⟨w.heap.size, o, none⟩ = false := fun o => K1.frozen o
    clear K1
    go_wp2
    refine bodyPost_ret (v := .tuple #[.agg #[.int .i64 0, .int .i64 0, .int .i64 0, .int .i64 0, .int .i64 0], .bool false]) (by simp [results, Try.results173, go_sem, *]) rfl ⟨rfl, by (repeat' (first | (with_reducible exact Below.refl _ _) | (with_reducible assumption) | (with_reducible refine Below.alloc ?_ ?_ _) | (with_reducible refine Below.drew ?_) | (with_reducible refine Below.setCell ?_ ?_ _) | (with_reducible refine bstep (by assumption) ?_ ?_) | (with_reducible exact Nat.le_refl _) | omega | (simp [*]; done) | (simp [*]; omega)))⟩
end Go.Proofs.Ytgpllffiahccjaa
