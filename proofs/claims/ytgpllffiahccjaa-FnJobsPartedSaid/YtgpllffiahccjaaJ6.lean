/- OrdersRow: the program's and the reference's. -/
import Derived.Test.YtgpllffiahccjaaJ2
import Derived.Test.YtgpllffiahccjaaCur
import Derived.Deep.RegionHeldLaw
import Derived.Deep.AppendLies
namespace Go.Proofs.Ytgpllffiahccjaa
set_option linter.unusedSimpArgs false
set_option linter.unusedVariables false
attribute [local go_sem] n_lt2 n_lt3 n_lt4 n_le2 n_le3
open Go.RowKit

def ordersRowL (l : List Jb) : List Int := if jobsB l = true then (l.length : Int) :: JB l else []
theorem ordersRowL_len (l : List Jb) : (ordersRowL l).length ≤ 41 := by
  unfold ordersRowL
  split
  · rename_i h
    have := (jobsB_all h).1
    simp [JB_len]; omega
  · simp
theorem JB_append (a b : List Jb) : JB (a ++ b) = JB a ++ JB b := by simp [JB]
theorem cell_five_at (w : World) (x0 x1 x2 x3 x4 : Value) (t : TypeId) (g : Nat) (hg : g = w.heap.size) : ∀ j u, [x0, x1, x2, x3, x4][j]? = some u → (w.alloc (.cells #[x0, x1, x2, x3, x4] t)).cell? ((⟨g, 0, none⟩ : Addr).add j) = some u := by
  subst hg
  intro j u hj
  match j, hj with
  | 0, hj => simp at hj; subst hj; simp [Addr.add]
  | 1, hj => simp at hj; subst hj; simp [Addr.add]
  | 2, hj => simp at hj; subst hj; simp [Addr.add]
  | 3, hj => simp at hj; subst hj; simp [Addr.add]
  | 4, hj => simp at hj; subst hj; simp [Addr.add]
theorem JB_take {l : List Jb} {k : Nat} (h : k < l.length) : JB (l.take (k + 1)) = JB (l.take k) ++ [(l.getD k default).i, (l.getD k default).d, (l.getD k default).k, (l.getD k default).v, (l.getD k default).f] := by
  rw [List.take_add_one, JB_append]
  congr 1
  simp [JB, List.getD, h]
attribute [local go_sem] Ext.cell Ext.frozen

set_option maxRecDepth 100000 in
set_option maxHeartbeats 2000000 in
theorem putJobs_any (A : Option Addr) (n cap p n0 : Nat) (l : List Jb) (zs0 : List Int) (wb w : World) (hS : Sl wb 5 A n (JB l)) (hl : l.length = n) (hn : n ≤ 10) (hn0 : n0 ≤ 1000) (hB : Below wb.heap.size wb w) (hC : Cur w wb.heap.size p 2 104 n0 zs0) :
    Calls Try.prog 90 #[.pointer (some ⟨p, 0, none⟩), .slice A n cap] w fun e w' => e = .returned (.tuple #[]) ∧ Cur w' wb.heap.size p 2 104 (n0 + 1 + 5 * n) (zs0 ++ ((n : Int) :: JB l)) ∧ Below wb.heap.size wb w' := by
  have hL := Lib.hid hl
  have HS := Lib.hid hS
  have HC := Lib.hid hC
  clear hl hS hC
  go_enter Try.func90, Try.ntmps90
  go_wp2_with fail
  refine (put_any wb.heap.size p n0 1 1 zs0 [(n : Int)] _ _ (HC.out.alloc _) rfl (cell_one_new _ _ _) (by omega)).mono ?_
  rintro e w1 ⟨rfl, C1, b1⟩
  have f1 : Below wb.heap.size wb w1 := (hB.alloc hB.size _).trans b1
  have HC1 := Lib.hid C1
  clear C1 b1 HC
  go_wp2
  go_loopw [13] (fun i wr => ∃ k : Nat, k ≤ n ∧ i = .int .i64 k ∧ Below wb.heap.size wb wr ∧ Hid (Cur wr wb.heap.size p 2 104 (n0 + 1 + 5 * k) (zs0 ++ ((n : Int) :: JB (l.take k))))) (fun i _ => n - (intOf i).toNat)
  case atStart => exact ⟨0, Nat.zero_le _, rfl, f1, Lib.hid (by simpa [JB] using HC1.out)⟩
  case round =>
    obtain ⟨k, hk, rfl, hbl, hcu⟩ := hrel
    by_cases hlt : k < n
    · obtain ⟨b, off, rfl, hb, hcell⟩ := sl_jobs HS.out (by omega)
      obtain ⟨h0, h1, h2, h3, h4⟩ := hcell k hlt
      clear hcell
      rw [← hbl.cell (by exact hb)] at h0 h1 h2 h3 h4
      generalize hpp : l.getD k default = pp at h0 h1 h2 h3 h4
      obtain ⟨x, y, x2, x3, x4⟩ := pp
      simp only at h0 h1 h2 h3 h4
      have HP := Lib.hid hpp
      clear hpp
      have hbr : b < wr.heap.size := Nat.lt_of_lt_of_le hb hbl.size
      have hkn : (k : Int) < (n : Int) := by omega
      go_wp2_with fail
      refine calls_named ?_
      rintro wq hwq
      have CQ : Cur wq wb.heap.size p 2 104 (n0 + 1 + 5 * k) (zs0 ++ ((n : Int) :: JB (l.take k))) := by rw [hwq]; exact (hcu.out.alloc _).alloc _
      have hnw : ∀ j u, (ints [x, y, x2, x3, x4])[j]? = some u → wq.cell? ((⟨wr.heap.size + 1, 0, none⟩ : Addr).add j) = some u := by rw [hwq]; exact cell_five_at _ _ _ _ _ _ _ _ (by simp)
      have fq : Below wb.heap.size wb wq := by rw [hwq]; exact (hbl.alloc hbl.size _).alloc (by have := hbl.size; simp; omega) _
      clear hwq
      refine (put_any wb.heap.size p (n0 + 1 + 5 * k) 5 5 (zs0 ++ ((n : Int) :: JB (l.take k))) [x, y, x2, x3, x4] _ wq CQ rfl hnw (by omega)).mono ?_
      rintro e w2 ⟨rfl, C2, b2⟩
      have f2 : Below wb.heap.size wb w2 := fq.trans b2
      have HC2 := Lib.hid C2
      clear C2 b2
      go_wp2
      refine ⟨⟨k + 1, by omega, by go_num, f2, Lib.hid ?_⟩, by simp [intOf]; omega⟩
      rw [JB_take (hL.out.symm ▸ hlt), HP.out]
      have := HC2.out
      rw [List.append_assoc, List.cons_append] at this
      exact this
    · have hkn : k = n := by omega
      subst hkn
      go_wp2
      go_end0
      have := hcu.out
      rw [List.take_of_length_le (by have := hL.out; omega)] at this
      exact ⟨rfl, this, hbl⟩
set_option maxRecDepth 100000 in
set_option maxHeartbeats 2000000 in
theorem ordersRow_any (A : Option Addr) (n cap : Nat) (l : List Jb) (w : World) (hS : Sl w 5 A n (JB l)) (hl : l.length = n) (hn : n ≤ maxLen) :
    Calls Try.prog 36 #[.slice A n cap] w (RetRow w 2 1 (ordersRowL l).length (ordersRowL l)) := by
  have c1 := jobsOk_any A n cap l w hS hl hn
  by_cases hpa : jobsB l = true
  · have hv : ordersRowL l = (n : Int) :: JB l := by unfold ordersRowL; rw [if_pos hpa, hl]
    have h10 : n ≤ 8 := by have := (jobsB_all hpa).1; omega
    rw [hv]
    rw [hpa] at c1
    clear hv hpa
    go_enter Try.func36, Try.ntmps36
    go_wp2_with fail
    refine c1.mono ?_
    rintro e w1 ⟨rfl, b1⟩
    go_wp2_with fail
    refine calls_named ?_
    rintro w2 hw2
    have b2 : Below w.heap.size w w2 := by rw [hw2]; exact b1.alloc b1.size _
    have C2 : Cur w2 w.heap.size w1.heap.size 2 104 0 [] := by rw [hw2]; exact ⟨none, 0, Blk.new _ _ _, Row.nil _ _ _ _, by simp, b1.size⟩
    clear hw2
    refine (putJobs_any A n cap w1.heap.size 0 l [] w w2 hS hl (by omega) (by omega) b2 C2).mono ?_
    rintro e w3 ⟨rfl, C3, b3⟩
    obtain ⟨m, hm⟩ : ∃ m, m = 0 + 1 + 5 * n := ⟨_, rfl⟩
    rw [← hm] at C3
    have HM := Lib.hid hm
    clear hm
    obtain ⟨A3, c3, K3, R3, hne3, hlo3⟩ := C3
    have q0 : w3.cell? ⟨w1.heap.size, 0, none⟩ = some (.slice A3 m c3) := K3.cell 0
    have hlt3 := K3.lt
    simp only [List.nil_append] at R3
    clear K3 c1
    go_wp2
    go_ret
    obtain rfl : m = (JB l).length + 1 := by have := HM.out; rw [JB_len]; omega
    exact RetRow.mk R3 b3
  · have hpa' : jobsB l = false := by simpa using hpa
    have hv : ordersRowL l = [] := by unfold ordersRowL; rw [if_neg hpa]
    rw [hv]
    rw [hpa'] at c1
    go_enter Try.func36, Try.ntmps36
    go_wp2_with fail
    refine c1.mono ?_
    rintro e w1 ⟨rfl, b1⟩
    go_wp2
    go_ret
    exact RetRow.mk (Row.nil _ _ _ _) b1
end Go.Proofs.Ytgpllffiahccjaa
