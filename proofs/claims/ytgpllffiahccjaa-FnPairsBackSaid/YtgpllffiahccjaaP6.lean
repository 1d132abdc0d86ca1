/- PairsRow: the program's and the reference's. -/
import Derived.Test.YtgpllffiahccjaaP1
import Derived.Test.YtgpllffiahccjaaCur
import Derived.Deep.RegionHeldLaw
import Derived.Deep.AppendLies
namespace Go.Proofs.Ytgpllffiahccjaa
set_option linter.unusedSimpArgs false
set_option linter.unusedVariables false
attribute [local go_sem] n_lt2 n_lt3 n_lt4 n_le2 n_le3
open Go.RowKit

def pairsRowL (l : List Pr) : List Int := if pairsB l = true then (l.length : Int) :: PR l else []
theorem pairsRowL_len (l : List Pr) : (pairsRowL l).length ≤ 21 := by
  unfold pairsRowL
  split
  · rename_i h
    have := pairsB_len h
    simp [PR_len]; omega
  · simp
theorem cell_two_at (w : World) (x y : Value) (t : TypeId) (g : Nat) (hg : g = w.heap.size) : ∀ j u, [x, y][j]? = some u → (w.alloc (.cells #[x, y] t)).cell? ((⟨g, 0, none⟩ : Addr).add j) = some u := by
  subst hg
  exact cell_two_new w x y t
theorem PR_take {l : List Pr} {k : Nat} (h : k < l.length) : PR (l.take (k + 1)) = PR (l.take k) ++ [(l.getD k default).k, (l.getD k default).v] := by
  rw [List.take_add_one, PR_append]
  congr 1
  simp [PR, List.getD, h]
attribute [local go_sem] Ext.cell Ext.frozen

set_option maxRecDepth 100000 in
set_option maxHeartbeats 2000000 in
theorem putPairs_any (A : Option Addr) (n cap p n0 : Nat) (l : List Pr) (zs0 : List Int) (wb w : World) (hS : Sl wb 2 A n (PR l)) (hl : l.length = n) (hn : n ≤ 10) (hn0 : n0 ≤ 1000) (hB : Below wb.heap.size wb w) (hC : Cur w wb.heap.size p 2 104 n0 zs0) :
    Calls Try.prog 85 #[.pointer (some ⟨p, 0, none⟩), .slice A n cap] w fun e w' => e = .returned (.tuple #[]) ∧ Cur w' wb.heap.size p 2 104 (n0 + 1 + 2 * n) (zs0 ++ ((n : Int) :: PR l)) ∧ Below wb.heap.size wb w' := by
  have hL := Lib.hid hl
  have HS := Lib.hid hS
  have HC := Lib.hid hC
  clear hl hS hC
  go_enter Try.func85, Try.ntmps85
  go_wp2_with fail
  refine (put_any wb.heap.size p n0 1 1 zs0 [(n : Int)] _ _ (HC.out.alloc _) rfl (cell_one_new _ _ _) (by omega)).mono ?_
  rintro e w1 ⟨rfl, C1, b1⟩
  have f1 : Below wb.heap.size wb w1 := (hB.alloc hB.size _).trans b1
  have HC1 := Lib.hid C1
  clear C1 b1 HC
  go_wp2
  go_loopw [13] (fun i wr => ∃ k : Nat, k ≤ n ∧ i = .int .i64 k ∧ Below wb.heap.size wb wr ∧ Hid (Cur wr wb.heap.size p 2 104 (n0 + 1 + 2 * k) (zs0 ++ ((n : Int) :: PR (l.take k))))) (fun i _ => n - (intOf i).toNat)
  case atStart => exact ⟨0, Nat.zero_le _, rfl, f1, Lib.hid (by simpa [PR] using HC1.out)⟩
  case round =>
    obtain ⟨k, hk, rfl, hbl, hcu⟩ := hrel
    by_cases hlt : k < n
    · obtain ⟨b, off, rfl, hb, hcell⟩ := sl_pairs HS.out (by omega)
      have h0 := (hcell k hlt).1
      have h1 := (hcell k hlt).2
      clear hcell
      rw [← hbl.cell (by exact hb)] at h0 h1
      generalize hpp : l.getD k default = pp at h0 h1
      obtain ⟨x, y⟩ := pp
      simp only at h0 h1
      have HP := Lib.hid hpp
      clear hpp
      have hbr : b < wr.heap.size := Nat.lt_of_lt_of_le hb hbl.size
      have hkn : (k : Int) < (n : Int) := by omega
      go_wp2_with fail
      refine calls_named ?_
      rintro wq hwq
      have CQ : Cur wq wb.heap.size p 2 104 (n0 + 1 + 2 * k) (zs0 ++ ((n : Int) :: PR (l.take k))) := by rw [hwq]; exact (hcu.out.alloc _).alloc _
      have hnw : ∀ j u, (ints [x, y])[j]? = some u → wq.cell? ((⟨wr.heap.size + 1, 0, none⟩ : Addr).add j) = some u := by rw [hwq]; exact cell_two_at _ _ _ _ _ (by simp)
      have fq : Below wb.heap.size wb wq := by rw [hwq]; exact (hbl.alloc hbl.size _).alloc (by have := hbl.size; simp; omega) _
      clear hwq
      refine (put_any wb.heap.size p (n0 + 1 + 2 * k) 2 2 (zs0 ++ ((n : Int) :: PR (l.take k))) [x, y] _ wq CQ rfl hnw (by omega)).mono ?_
      rintro e w2 ⟨rfl, C2, b2⟩
      have f2 : Below wb.heap.size wb w2 := fq.trans b2
      have HC2 := Lib.hid C2
      clear C2 b2
      go_wp2
      refine ⟨⟨k + 1, by omega, by go_num, f2, Lib.hid ?_⟩, by simp [intOf]; omega⟩
      rw [PR_take (hL.out.symm ▸ hlt), HP.out]
      have := HC2.out
      rw [List.append_assoc, List.cons_append] at this
      exact this
    · have hkn : k = n := by omega
      subst hkn
      go_wp2
      go_end0
      have := hcu.out
      rw [List.take_of_length_le (by have := hL.out; omega)] at this
      exact ⟨rfl, this, hbl⟩
set_option maxRecDepth 100000 in
set_option maxHeartbeats 2000000 in
theorem pairsRow_any (A : Option Addr) (n cap : Nat) (l : List Pr) (w : World) (hS : Sl w 2 A n (PR l)) (hl : l.length = n) (hn : n ≤ maxLen) :
    Calls Try.prog 30 #[.slice A n cap] w (RetRow w 2 1 (pairsRowL l).length (pairsRowL l)) := by
  have c1 := pairsOk_any A n cap l w hS hl hn
  by_cases hpa : pairsB l = true
  · have hv : pairsRowL l = (n : Int) :: PR l := by unfold pairsRowL; rw [if_pos hpa, hl]
    have h10 : n ≤ 10 := by have := pairsB_len hpa; omega
    rw [hv]
    rw [hpa] at c1
    clear hv hpa
    go_enter Try.func30, Try.ntmps30
    go_wp2_with fail
    refine c1.mono ?_
    rintro e w1 ⟨rfl, b1⟩
    go_wp2_with fail
    refine calls_named ?_
    rintro w2 hw2
    have b2 : Below w.heap.size w w2 := by rw [hw2]; exact b1.alloc b1.size _
    have C2 : Cur w2 w.heap.size w1.heap.size 2 104 0 [] := by rw [hw2]; exact ⟨none, 0, Blk.new _ _ _, Row.nil _ _ _ _, by simp, b1.size⟩
    clear hw2
    refine (putPairs_any A n cap w1.heap.size 0 l [] w w2 hS hl h10 (by omega) b2 C2).mono ?_
    rintro e w3 ⟨rfl, C3, b3⟩
    obtain ⟨m, hm⟩ : ∃ m, m = 0 + 1 + 2 * n := ⟨_, rfl⟩
    rw [← hm] at C3
    have HM := Lib.hid hm
    clear hm
    obtain ⟨A3, c3, K3, R3, hne3, hlo3⟩ := C3
    have q0 : w3.cell? ⟨w1.heap.size, 0, none⟩ = some (.slice A3 m c3) := K3.cell 0
    have hlt3 := K3.lt
    simp only [List.nil_append] at R3
    clear K3 c1
    go_wp2
    go_ret
    obtain rfl : m = (PR l).length + 1 := by have := HM.out; rw [PR_len]; omega
    exact RetRow.mk R3 b3
  · have hpa' : pairsB l = false := by simpa using hpa
    have hv : pairsRowL l = [] := by unfold pairsRowL; rw [if_neg hpa]
    rw [hv]
    rw [hpa'] at c1
    go_enter Try.func30, Try.ntmps30
    go_wp2_with fail
    refine c1.mono ?_
    rintro e w1 ⟨rfl, b1⟩
    go_wp2
    go_ret
    exact RetRow.mk (Row.nil _ _ _ _) b1
end Go.Proofs.Ytgpllffiahccjaa
