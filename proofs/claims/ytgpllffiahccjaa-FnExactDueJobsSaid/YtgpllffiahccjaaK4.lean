/- The program's FiredJobs. -/
import Derived.Test.YtgpllffiahccjaaK2
import Derived.Test.YtgpllffiahccjaaK3
import Derived.Test.YtgpllffiahccjaaJ2
import Derived.Test.YtgpllffiahccjaaSInt64
namespace Go.Proofs.Ytgpllffiahccjaa
set_option linter.unusedSimpArgs false
set_option linter.unusedVariables false
attribute [local go_sem] n_lt2 n_lt3 n_lt4 n_le2 n_le3
open Go.RowKit
attribute [local go_sem] Ext.cell Ext.frozen
/-- What FiredJobs hands back. -/
def firedR1 (l : List Jb) : List Int := if jobsB l = true then firL l else []
theorem firedR1_len (l : List Jb) : (firedR1 l).length ≤ 8 := by
  unfold firedR1
  split
  · rename_i h
    unfold firL
    rw [List.length_map]
    exact Nat.le_trans (firedS_len l) (jobsB_all h).1
  · exact Nat.zero_le _
theorem cell_one_at (w : World) (x0 : Value) (t : TypeId) (g : Nat) (hg : g = w.heap.size) : ∀ j u, [x0][j]? = some u → (w.alloc (.cells #[x0] t)).cell? ((⟨g, 0, none⟩ : Addr).add j) = some u := by
  intro j u hu
  subst hg
  match j, hu with
  | 0, hu => simp at hu; subst hu; exact (Blk.new w t #[x0]).cell 0
  | j + 1, hu => simp at hu
theorem take_map_succ {l : List Jb} {k : Nat} (h : k < l.length) : (l.take k).map (·.i) ++ [(l.getD k default).i] = (l.take (k + 1)).map (·.i) := by
  rw [take_succ_getD h, List.map_append]
  rfl
set_option maxRecDepth 100000 in
set_option maxHeartbeats 4000000 in
theorem firedJobs_any (A : Option Addr) (n cap : Nat) (l : List Jb) (w : World) (hS : Sl w 5 A n (JB l)) (hl : l.length = n) (hn : n ≤ maxLen) :
    Calls Try.prog 61 #[.slice A n cap] w (RetRow w 2 1 (firedR1 l).length (firedR1 l)) := by
  have c1 := jobsOk_any A n cap l w hS hl hn
  cases hb : jobsB l with
  | false =>
    have hr : firedR1 l = [] := by unfold firedR1; rw [hb]; rfl
    rw [hr]
    rw [hb] at c1
    go_enter Try.func61, Try.ntmps61
    go_wp2_with fail
    refine c1.mono ?_
    rintro e w1 ⟨rfl, b1⟩
    go_wp2
    go_ret
    exact RetRow.mk (Row.nil _ _ _ _) b1
  | true =>
    have hr : firedR1 l = firL l := by unfold firedR1; rw [hb]; rfl
    rw [hr]
    rw [hb] at c1
    have h8 := (jobsB_all hb).1
    have hn8 : n ≤ 8 := by omega
    have HS := Lib.hid hS
    have HB := Lib.hid hb
    have hfl : (l.filter firedJ).length ≤ 8 := Nat.le_trans (List.length_filter_le _ _) h8
    clear hr hS hb h8
    go_enter Try.func61, Try.ntmps61
    go_wp2_with fail
    refine c1.mono ?_
    rintro e w1 ⟨rfl, b1⟩
    clear c1
    go_wp2_with fail
    refine (chosen_closed_any A n cap l w1 (HS.out.below b1) hl (by omega)).mono ?_
    rintro e w2 ⟨g, c, rfl, R2, b2⟩
    have f2 := bthen b1 b2
    have hz := b1.size
    obtain ⟨y, hy⟩ : ∃ y, l.filter firedJ = y := ⟨_, rfl⟩
    rw [hy] at R2 hfl
    rw [hy]
    have HY := Lib.hid hy
    obtain ⟨m, hm⟩ : ∃ m, y.length = m := ⟨_, rfl⟩
    rw [hm] at R2 hfl
    rw [hm]
    have HM := Lib.hid hm
    clear hy hm b1 b2
    go_wp2_with fail
    refine (sortFired_any w1.heap.size g m c y w2 HM.out (by omega) R2).mono ?_
    rintro e w3 ⟨rfl, s, hp, hs, R3, W3⟩
    have f3 : Below w.heap.size w w3 := W3.below f2 f2.size (fun x hx => by obtain rfl := Option.some.inj hx; exact Nat.le_trans hz (R2.ge _ rfl))
    have hfs : s = firedS l := firedS_of HB.out (by have := HY.out; unfold fireds; rw [this]; exact hp) hs
    have hsm : s.length = m := by rw [hp.length_eq]; exact HM.out
    have HFS := Lib.hid (And.intro hfs hsm)
    have hS3 := R3.sl
    have hz3 := Nat.le_trans hz (R3.ge _ rfl)
    have HS3 := Lib.hid hS3
    clear hfs hp hs R2 R3 W3 hS3 hsm HS HY f2
    go_wp2
    go_loopw [4, 17] (fun o iv wr => ∃ (k : Nat) (A0 : Option Addr) (c0 : Nat), k ≤ m ∧ iv = .int .i64 (k : Nat) ∧ o = .slice A0 k c0 ∧ Row wr w3.heap.size 2 1 A0 k c0 ((s.take k).map (·.i)) ∧ Below w3.heap.size w3 wr) (fun _ iv _ => m - (intOf iv).toNat)
    case atStart => exact ⟨0, some ⟨w3.heap.size, 0, none⟩, 0, Nat.zero_le _, rfl, rfl, row0p (Blk.new w3 _ _) (Nat.le_refl _), (Below.refl _ _).alloc (Nat.le_refl _) _⟩
    case round =>
      obtain ⟨k, A0, c0, hk, rfl, rfl, R, hbl⟩ := hrel
      by_cases hlt : k < m
      · have hlt' : (k : Int) < (m : Int) := by omega
        obtain ⟨b, off, hA, hbb, hcell⟩ := sl_jobs HS3.out (by omega)
        injection hA with hA
        injection hA with hA1 hA2
        subst hA1 hA2
        obtain ⟨h0, h1, h2, h3, h4⟩ := hcell k hlt
        clear hcell
        rw [← hbl.cell (by exact hbb)] at h0 h1 h2 h3 h4
        simp only [Nat.zero_add] at h0 h1 h2 h3 h4
        have hts := Lib.hid (take_map_succ (l := s) (k := k) (by rw [HFS.out.2]; exact hlt))
        generalize s.getD k default = pk at h0 h1 h2 h3 h4 hts
        obtain ⟨x0, x1, x2, x3, x4⟩ := pk
        simp only at h0 h1 h2 h3 h4
        have hbr : g < wr.heap.size := Nat.lt_of_lt_of_le hbb hbl.size
        have hzr := Nat.le_trans f3.size hbl.size
        go_wp2_with (at_builtin; refine wpList_append_row rfl _ _ 39 rfl 2 (.int .i64 0) 1 8 Try.underlying39 info_Int64 (by first | kernel_rfl | simp [Value.cells]) (by decide) w3.heap.size A0 k c0 ((s.take k).map (·.i)) rfl ((R.alloc _).alloc _) ⟨wr.heap.size + 1, 0, none⟩ 1 1 [x0] rfl rfl (cell_one_at _ _ _ _ (by simp)) (by unfold maxLen; omega) (by omega) (by have := hbl.size; simp; omega) ?_; intro A5 c5 w5 R5 B5)
        rw [hts.out] at R5
        have hB : Below w3.heap.size w3 w5 := btr (((hbl.alloc hbl.size _).alloc (by have := hbl.size; simp; omega) _)) B5
        exact ⟨⟨k + 1, A5, c5, by omega, by go_num, rfl, R5, hB⟩, by simp [intOf]; omega⟩
      · have hkn : k = m := by omega
        subst hkn
        have hlt' : ¬ (k : Int) < (k : Int) := by omega
        go_wp2
        go_ret
        have e1 : (s.take k).map (·.i) = firL l := by rw [List.take_of_length_le (Nat.le_of_eq HFS.out.2), HFS.out.1]; rfl
        have e2 : (firL l).length = k := by unfold firL; rw [List.length_map, ← HFS.out.1]; exact HFS.out.2
        rw [e1] at R
        rw [e2]
        exact RetRow.mk (R.mono f3.size) (bthen f3 hbl)
end Go.Proofs.Ytgpllffiahccjaa
