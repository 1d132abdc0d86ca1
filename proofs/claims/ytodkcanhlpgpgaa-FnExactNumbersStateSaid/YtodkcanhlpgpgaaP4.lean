/- ValueAt: the walks. -/
import Derived.Test.YtodkcanhlpgpgaaP3
namespace Go.Proofs.Ytodkcanhlpgpgaa
set_option linter.unusedSimpArgs false
set_option linter.unusedVariables false
attribute [local go_sem] n_lt2 n_lt3 n_lt4 n_le2 n_le3
open Go.RowKit
attribute [local go_sem] Ext.cell Ext.frozen

set_option maxHeartbeats 800000 in
theorem specValueAt_any (A : Option Addr) (n cap : Nat) (l : List Pr) (key : Int) (w : World) (hS : Sl w 2 A n (PR l)) (hl : l.length = n) (hn : n ≤ maxLen) :
    Calls Try.prog 146 #[.slice A n cap, .int .i64 key] w fun e' w' => e' = .returned (.tuple #[.int .i64 (valueAtB l key).1, .bool (valueAtB l key).2]) ∧ Below w.heap.size w w' := by
  have c1 := specPairsOk_any A n cap l w hS hl hn
  by_cases hk : pairsB l = true
  · have hv : valueAtB l key = valAt l key := by unfold valueAtB; rw [if_pos hk]
    rw [hv]
    rw [hk] at c1
    clear hv
    unfold maxLen at hn
    have hL := Lib.hid hl
    have HS := Lib.hid hS
    clear hl hS hk
    go_enter Try.func146, Try.ntmps146
    go_wp2_with fail
    refine c1.mono ?_
    rintro e w1 ⟨rfl, b1⟩
    go_wp2
    go_loopw [6] (fun i wr => ∃ k : Nat, k ≤ n ∧ i = .int .i64 k ∧ Below w.heap.size w wr ∧ Hid (∀ j, j < k → (l.getD j default).k ≠ key)) (fun i _ => n - (intOf i).toNat)
    case atStart => exact ⟨0, Nat.zero_le _, rfl, b1, fun j hj => absurd hj (by omega)⟩
    case round =>
      obtain ⟨k, hk, rfl, hbl, hall⟩ := hrel
      by_cases hlt : k < n
      · obtain ⟨b, off, rfl, hb, hcell⟩ := sl_pairs HS.out (by omega)
        have h0 := (hcell k hlt).1
        have h1 := (hcell k hlt).2
        clear hcell
        rw [← hbl.cell (by exact hb)] at h0 h1
        generalize hpk : l.getD k default = pk at h0 h1
        obtain ⟨x, y⟩ := pk
        simp only at h0 h1
        have H := Lib.hid hpk
        clear hpk
        have hbr : b < wr.heap.size := Nat.lt_of_lt_of_le hb hbl.size
        by_cases hx : x = key
        · subst hx
          go_wp2
          have hva : valAt l x = (y, true) := by rw [valAt_some (hL.out.symm ▸ hlt) hall.out (by rw [H.out]), H.out]
          refine bodyPost_ret (v := .tuple #[.int .i64 y, .bool true]) (by simp [results, Try.results146, go_sem, *]) rfl ⟨by rw [hva], hbl⟩
        · have hx' : (x == key) = false := by simpa using hx
          go_wp2
          exact ⟨⟨k + 1, by omega, by go_num, hbl, below_upto hall.out (by rw [H.out]; exact hx)⟩, by simp [intOf]; omega⟩
      · have hkn : k = n := by omega
        subst hkn
        go_wp2
        have hva : valAt l key = (0, false) := valAt_none (hL.out.symm ▸ hall.out)
        refine bodyPost_ret (v := .tuple #[.int .i64 0, .bool false]) (by simp [results, Try.results146, go_sem, *]) rfl ⟨by rw [hva], hbl⟩
  · have hk' : pairsB l = false := by simpa using hk
    have hv : valueAtB l key = (0, false) := by unfold valueAtB; rw [if_neg hk]
    rw [hv]
    rw [hk'] at c1
    go_enter Try.func146, Try.ntmps146
    go_wp2_with fail
    refine c1.mono ?_
    rintro e w1 ⟨rfl, b1⟩
    go_wp2
    refine bodyPost_ret (v := .tuple #[.int .i64 0, .bool false]) (by simp [results, Try.results146, go_sem, *]) rfl ⟨rfl, b1⟩
end Go.Proofs.Ytodkcanhlpgpgaa
