/- ValueAt: the walks. -/
import Derived.Test.YtgpllffiahccjaaP3
namespace Go.Proofs.Ytgpllffiahccjaa
set_option linter.unusedSimpArgs false
set_option linter.unusedVariables false
attribute [local go_sem] n_lt2 n_lt3 n_lt4 n_le2 n_le3
open Go.RowKit
attribute [local go_sem] Ext.cell Ext.frozen

set_option maxHeartbeats 800000 in
theorem indexPair_any (A : Option Addr) (n cap : Nat) (l : List Pr) (key : Int) (p q : Nat) (w : World) (hS : Sl w 2 A n (PR l)) (hl : l.length = n) (hn : n ≤ maxLen)
    (hp : w.cell? ⟨p, 0, none⟩ = some (.func (.func 101) #[] #[])) (hq : w.cell? ⟨q, 0, none⟩ = some (.int .i64 key)) (hpl : p < w.heap.size) (hql : q < w.heap.size) :
    Calls Try.prog 138 #[.slice A n cap, .func (.func 139) #[] #[.pointer (some ⟨p, 0, none⟩), .pointer (some ⟨q, 0, none⟩)]] w fun e' w' => e' = .returned (.int .i64 (keyAt l key)) ∧ Below w.heap.size w w' := by
  unfold maxLen at hn
  have hL := Lib.hid hl
  have HS := Lib.hid hS
  have HP := Lib.hid hp
  have HQ := Lib.hid hq
  clear hl hS hp hq
  go_enter Try.func138, Try.ntmps138
  go_wp2
  go_loopw [8] (fun i wr => ∃ k : Nat, k ≤ n ∧ i = .int .i64 k ∧ Below w.heap.size w wr ∧ Hid (∀ j, j < k → (l.getD j default).k ≠ key)) (fun i _ => n - (intOf i).toNat)
  case atStart => exact ⟨0, Nat.zero_le _, rfl, Below.refl _ _, fun j hj => absurd hj (by omega)⟩
  case round =>
    obtain ⟨k, hk, rfl, hbl, hall⟩ := hrel
    by_cases hlt : k < n
    · obtain ⟨b, off, rfl, hb, hcell⟩ := sl_pairs HS.out (by omega)
      have h0 := (hcell k hlt).1
      have h1 := (hcell k hlt).2
      clear hcell
      rw [← hbl.cell (by exact hb)] at h0 h1
      generalize hpk : l.getD k default = pk at h0 h1
      obtain ⟨x, y⟩ := pk
      simp only at h0 h1
      have H := Lib.hid hpk
      clear hpk
      have hbr : b < wr.heap.size := Nat.lt_of_lt_of_le hb hbl.size
      have c1 := isKey_any x y key p q wr ((hbl.cell (p := ⟨p, 0, none⟩) hpl).trans HP.out) ((hbl.cell (p := ⟨q, 0, none⟩) hql).trans HQ.out) (Nat.lt_of_lt_of_le hpl hbl.size) (Nat.lt_of_lt_of_le hql hbl.size)
      by_cases hx : x = key
      · simp only [hx, decide_true] at c1
        subst hx
        go_wp2_with fail
        refine c1.mono ?_
        rintro e w1 ⟨rfl, b1⟩
        go_wp2
        go_ret
        exact ⟨ret_int (keyAt_some (hL.out.symm ▸ hlt) hall.out (by rw [H.out])).symm, bstep b1 hbl hbl.size⟩
      · simp only [hx, decide_false] at c1
        go_wp2_with fail
        refine c1.mono ?_
        rintro e w1 ⟨rfl, b1⟩
        go_wp2
        exact ⟨⟨k + 1, by omega, by go_num, bstep b1 hbl hbl.size, below_upto hall.out (by rw [H.out]; exact hx)⟩, by simp [intOf]; omega⟩
    · have hkn : k = n := by omega
      subst hkn
      go_wp2
      go_ret
      exact ⟨ret_int (keyAt_none (hL.out.symm ▸ hall.out)).symm, hbl⟩
set_option maxHeartbeats 400000 in
theorem placePair_any (A : Option Addr) (n cap : Nat) (l : List Pr) (key : Int) (w : World) (hS : Sl w 2 A n (PR l)) (hl : l.length = n) (hn : n ≤ maxLen) :
    Calls Try.prog 100 #[.slice A n cap, .int .i64 key, .func (.func 101) #[] #[]] w fun e' w' => e' = .returned (.int .i64 (keyAt l key)) ∧ Below w.heap.size w w' := by
  generalize hv : keyAt l key = v
  go_enter Try.func100, Try.ntmps100
  go_wp2_with fail
  refine calls_named ?_
  rintro w1 hw1
  have b1 : Below w.heap.size w w1 := by rw [hw1]; (repeat' (first | (with_reducible exact Below.refl _ _) | (with_reducible assumption) | (with_reducible refine Below.alloc ?_ ?_ _) | (with_reducible refine Below.drew ?_) | (with_reducible refine Below.setCell ?_ ?_ _) | (with_reducible refine bstep (by assumption) ?_ ?_) | (with_reducible exact Nat.le_refl _) | omega | (simp [*]; done) | (simp [*]; omega)))
  have hq : w1.cell? ⟨w.heap.size, 0, none⟩ = some (.int .i64 key) := by rw [hw1]; simp [go_sem]
  have hp : w1.cell? ⟨w.heap.size + 1, 0, none⟩ = some (.func (.func 101) #[] #[]) := by rw [hw1]; simp [go_sem]
  have hs : w1.heap.size = w.heap.size + 2 := by rw [hw1]; simp
  clear hw1
  have c1 := indexPair_any A n cap l key (w.heap.size + 1) w.heap.size w1 (hS.below b1) hl hn hp hq (by omega) (by omega)
  rw [hv] at c1
  refine c1.mono ?_
  rintro e w2 ⟨rfl, b2⟩
  go_wp2
  go_ret
  exact ⟨rfl, bthen b1 b2⟩
set_option maxHeartbeats 400000 in
theorem valAt_any (A : Option Addr) (n cap : Nat) (l : List Pr) (key : Int) (w : World) (hS : Sl w 2 A n (PR l)) (hl : l.length = n) (hn : n ≤ maxLen) :
    Calls Try.prog 84 #[.slice A n cap, .int .i64 key] w fun e' w' => e' = .returned (.tuple #[.int .i64 (valAt l key).1, .bool (valAt l key).2]) ∧ Below w.heap.size w w' := by
  have c1 := placePair_any A n cap l key w hS hl hn
  by_cases hk : keyIx l key < l.length
  · have hv : valAt l key = ((l.getD (keyIx l key) default).v, true) := by unfold valAt; rw [if_pos hk]
    have ha : keyAt l key = (keyIx l key : Int) := by unfold keyAt; rw [if_pos hk]
    rw [hv]
    rw [ha] at c1
    generalize keyIx l key = k at hk c1
    rw [hl] at hk
    clear ha hv
    obtain ⟨b, off, rfl, hb, hcell⟩ := sl_pairs hS (by omega)
    have h1 := (hcell k hk).2
    clear hcell
    generalize (l.getD k default).v = y at h1
    unfold maxLen at hn
    go_enter Try.func84, Try.ntmps84
    go_wp2_with fail
    refine c1.mono ?_
    rintro e w1 ⟨rfl, b1⟩
    rw [← b1.cell (by exact hb)] at h1
    have hk0 : (k : Int) < (n : Int) := by omega
    go_wp2
    refine bodyPost_ret (v := .tuple #[.int .i64 y, .bool true]) (by simp [results, Try.results84, go_sem, *]) rfl ⟨rfl, b1⟩
  · have hv : valAt l key = (0, false) := by unfold valAt; rw [if_neg hk]
    have ha : keyAt l key = -1 := by unfold keyAt; rw [if_neg hk]
    rw [hv]
    rw [ha] at c1
    go_enter Try.func84, Try.ntmps84
    go_wp2_with fail
    refine c1.mono ?_
    rintro e w1 ⟨rfl, b1⟩
    go_wp2
    refine bodyPost_ret (v := .tuple #[.int .i64 0, .bool false]) (by simp [results, Try.results84, go_sem, *]) rfl ⟨rfl, b1⟩
set_option maxHeartbeats 400000 in
theorem valueAt_any (A : Option Addr) (n cap : Nat) (l : List Pr) (key : Int) (w : World) (hS : Sl w 2 A n (PR l)) (hl : l.length = n) (hn : n ≤ maxLen) :
    Calls Try.prog 42 #[.slice A n cap, .int .i64 key] w fun e' w' => e' = .returned (.tuple #[.int .i64 (valueAtB l key).1, .bool (valueAtB l key).2]) ∧ Below w.heap.size w w' := by
  have c1 := pairsOk_any A n cap l w hS hl hn
  by_cases hk : pairsB l = true
  · have hv : valueAtB l key = valAt l key := by unfold valueAtB; rw [if_pos hk]
    rw [hv]
    rw [hk] at c1
    clear hv
    go_enter Try.func42, Try.ntmps42
    go_wp2_with fail
    refine c1.mono ?_
    rintro e w1 ⟨rfl, b1⟩
    have c2 := valAt_any A n cap l key w1 (hS.below b1) hl hn
    generalize hva : valAt l key = va at c2
    obtain ⟨x, y⟩ := va
    go_wp2_with fail
    refine c2.mono ?_
    rintro e w2 ⟨rfl, b2⟩
    go_wp2
    refine bodyPost_ret (v := .tuple #[.int .i64 x, .bool y]) (by simp [results, Try.results42, go_sem, *]) rfl ⟨by rw [hva], bthen b1 b2⟩
  · have hk' : pairsB l = false := by simpa using hk
    have hv : valueAtB l key = (0, false) := by unfold valueAtB; rw [if_neg hk]
    rw [hv]
    rw [hk'] at c1
    go_enter Try.func42, Try.ntmps42
    go_wp2_with fail
    refine c1.mono ?_
    rintro e w1 ⟨rfl, b1⟩
    go_wp2
    refine bodyPost_ret (v := .tuple #[.int .i64 0, .bool false]) (by simp [results, Try.results42, go_sem, *]) rfl ⟨rfl, b1⟩
set_option maxHeartbeats 800000 in
theorem specValueAt_any (A : Option Addr) (n cap : Nat) (l : List Pr) (key : Int) (w : World) (hS : Sl w 2 A n (PR l)) (hl : l.length = n) (hn : n ≤ maxLen) :
    Calls Try.prog 95 #[.slice A n cap, .int .i64 key] w fun e' w' => e' = .returned (.tuple #[.int .i64 (valueAtB l key).1, .bool (valueAtB l key).2]) ∧ Below w.heap.size w w' := by
  have c1 := specPairsOk_any A n cap l w hS hl hn
  by_cases hk : pairsB l = true
  · have hv : valueAtB l key = valAt l key := by unfold valueAtB; rw [if_pos hk]
    rw [hv]
    rw [hk] at c1
    clear hv
    unfold maxLen at hn
    have hL := Lib.hid hl
    have HS := Lib.hid hS
    clear hl hS hk
    go_enter Try.func95, Try.ntmps95
    go_wp2_with fail
    refine c1.mono ?_
    rintro e w1 ⟨rfl, b1⟩
    go_wp2
    go_loopw [6] (fun i wr => ∃ k : Nat, k ≤ n ∧ i = .int .i64 k ∧ Below w.heap.size w wr ∧ Hid (∀ j, j < k → (l.getD j default).k ≠ key)) (fun i _ => n - (intOf i).toNat)
    case atStart => exact ⟨0, Nat.zero_le _, rfl, b1, fun j hj => absurd hj (by omega)⟩
    case round =>
      obtain ⟨k, hk, rfl, hbl, hall⟩ := hrel
      by_cases hlt : k < n
      · obtain ⟨b, off, rfl, hb, hcell⟩ := sl_pairs HS.out (by omega)
        have h0 := (hcell k hlt).1
        have h1 := (hcell k hlt).2
        clear hcell
        rw [← hbl.cell (by exact hb)] at h0 h1
        generalize hpk : l.getD k default = pk at h0 h1
        obtain ⟨x, y⟩ := pk
        simp only at h0 h1
        have H := Lib.hid hpk
        clear hpk
        have hbr : b < wr.heap.size := Nat.lt_of_lt_of_le hb hbl.size
        by_cases hx : x = key
        · subst hx
          go_wp2
          have hva : valAt l x = (y, true) := by rw [valAt_some (hL.out.symm ▸ hlt) hall.out (by rw [H.out]), H.out]
          refine bodyPost_ret (v := .tuple #[.int .i64 y, .bool true]) (by simp [results, Try.results95, go_sem, *]) rfl ⟨by rw [hva], hbl⟩
        · have hx' : (x == key) = false := by simpa using hx
          go_wp2
          exact ⟨⟨k + 1, by omega, by go_num, hbl, below_upto hall.out (by rw [H.out]; exact hx)⟩, by simp [intOf]; omega⟩
      · have hkn : k = n := by omega
        subst hkn
        go_wp2
        have hva : valAt l key = (0, false) := valAt_none (hL.out.symm ▸ hall.out)
        refine bodyPost_ret (v := .tuple #[.int .i64 0, .bool false]) (by simp [results, Try.results95, go_sem, *]) rfl ⟨by rw [hva], hbl⟩
  · have hk' : pairsB l = false := by simpa using hk
    have hv : valueAtB l key = (0, false) := by unfold valueAtB; rw [if_neg hk]
    rw [hv]
    rw [hk'] at c1
    go_enter Try.func95, Try.ntmps95
    go_wp2_with fail
    refine c1.mono ?_
    rintro e w1 ⟨rfl, b1⟩
    go_wp2
    refine bodyPost_ret (v := .tuple #[.int .i64 0, .bool false]) (by simp [results, Try.results95, go_sem, *]) rfl ⟨rfl, b1⟩
end Go.Proofs.Ytgpllffiahccjaa
