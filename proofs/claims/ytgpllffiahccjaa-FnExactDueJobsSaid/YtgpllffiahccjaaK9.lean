/- DueJobs, the program's and the reference's. -/
import Derived.Test.YtgpllffiahccjaaK8
namespace Go.Proofs.Ytgpllffiahccjaa
set_option linter.unusedSimpArgs false
set_option linter.unusedVariables false
attribute [local go_sem] n_lt2 n_lt3 n_lt4 n_le2 n_le3
open Go.RowKit
attribute [local go_sem] Ext.cell Ext.frozen
/-- What DueJobs hands back. -/
def dueR (l : List Jb) (time : Int) : List Int := dueTo (openR l) time (openR l).length
theorem dueR_len (l : List Jb) (time : Int) : (dueR l time).length ≤ 8 := Nat.le_trans (dueTo_len _ _ _) (openR_len l)
set_option maxRecDepth 100000 in
set_option maxHeartbeats 4000000 in
theorem dueJobs_any (A : Option Addr) (n cap : Nat) (l : List Jb) (time : Int) (w : World) (hS : Sl w 5 A n (JB l)) (hl : l.length = n) (hn : n ≤ maxLen) :
    Calls Try.prog 66 #[.slice A n cap, .int .i64 time] w (RetRow w 2 1 (dueR l time).length (dueR l time)) := by
  have c1 := jobsOk_any A n cap l w hS hl hn
  cases hb : jobsB l with
  | false =>
    have hr : dueR l time = [] := by unfold dueR openR; rw [hb]; rfl
    rw [hr]
    rw [hb] at c1
    go_enter Try.func66, Try.ntmps66
    go_wp2_with fail
    refine c1.mono ?_
    rintro e w1 ⟨rfl, b1⟩
    go_wp2
    go_ret
    exact RetRow.mk (Row.nil _ _ _ _) b1
  | true =>
    rw [hb] at c1
    have HS := Lib.hid (fun (v : World) (hB : Below w.heap.size w v) => hS.below hB)
    clear hS hb
    go_enter Try.func66, Try.ntmps66
    go_wp2_with fail
    refine c1.mono ?_
    rintro e w1 ⟨rfl, b1⟩
    clear c1
    go_wp2_with fail
    refine calls_named ?_
    rintro v hv
    have bv : Below w1.heap.size w1 v := by rw [hv]; exact (Below.refl _ _).alloc (Nat.le_refl _) _
    have R0 : Row v w1.heap.size 2 1 (some ⟨w1.heap.size, 0, none⟩) 0 0 [] := by rw [hv]; exact row0p (Blk.new w1 _ _) (Nat.le_refl _)
    clear hv
    have fv := bthen b1 bv
    refine (openJobs_any A n cap l v (HS.out v fv) hl hn).mono ?_
    rintro e w2 ⟨A2, c2, rfl, R2, b2⟩
    have R1 := R0.below b2
    have f2 := bthen fv b2
    obtain ⟨m, hm⟩ : ∃ x, (openR l).length = x := ⟨_, rfl⟩
    rw [hm] at R2 ⊢
    have hm8 : m ≤ 8 := by rw [← hm]; exact openR_len l
    have HM := Lib.hid hm
    obtain ⟨lo, hlo0⟩ : ∃ x, x = w1.heap.size := ⟨_, rfl⟩
    have hlo : w.heap.size ≤ lo := by rw [hlo0]; exact b1.size
    have hap : ∀ a b, (some (⟨w1.heap.size, 0, none⟩ : Addr)) = some a → A2 = some b → a.block ≠ b.block := apart_of R0.lt R2.ge
    have hvlo : lo ≤ v.heap.size := by rw [hlo0]; exact bv.size
    replace R2 := R2.mono hvlo
    replace R1 := R1.mono (Nat.le_of_eq hlo0)
    clear hm b1 b2 bv R0 fv HS
    go_wp2
    go_loopw [5, 15] (fun o iv wr => ∃ (k : Nat) (A0 : Option Addr) (n0 c0 : Nat) (zs : List Int), k ≤ m ∧ n0 ≤ k ∧ iv = .int .i64 (k : Nat) ∧ o = .slice A0 n0 c0 ∧ Row wr lo 2 1 A0 n0 c0 zs ∧ Hid (zs = dueTo (openR l) time k) ∧ Row wr lo 87 2 A2 m c2 (DU (openR l)) ∧ (∀ a b, A0 = some a → A2 = some b → a.block ≠ b.block) ∧ Below w.heap.size w wr) (fun _ iv _ => m - (intOf iv).toNat)
    case atStart => exact ⟨0, _, 0, _, [], Nat.zero_le _, Nat.le_refl _, rfl, rfl, R1, Lib.hid rfl, R2, hap, f2⟩
    case round =>
      clear R1 R2 hap f2
      obtain ⟨k, A0, n0, c0, zs, hk, hn0, rfl, rfl, R, hz, RD, hap, hbl⟩ := hrel
      have hzr := hbl.size
      by_cases hlt : k < m
      · have hlt' : (k : Int) < (m : Int) := by omega
        obtain ⟨b, off, rfl, hbb, hcell⟩ := sl_dues RD.sl (by omega)
        obtain ⟨h0, h1⟩ := hcell k hlt
        clear hcell
        have hge : lo ≤ b := RD.ge _ rfl
        have hts : dueTo (openR l) time (k + 1) = if ((openR l).getD k default).d ≤ time then dueTo (openR l) time k ++ [((openR l).getD k default).i] else dueTo (openR l) time k := rfl
        have HTS := Lib.hid hts
        clear hts
        generalize (openR l).getD k default = pk at h0 h1 HTS
        obtain ⟨xi, xd⟩ := pk
        simp only at h0 h1
        by_cases hd : xd ≤ time
        · have hz2 := Lib.hid (show zs ++ [xi] = dueTo (openR l) time (k + 1) by rw [HTS.out, if_pos hd, hz.out])
          clear hz HTS
          have HAP := Lib.hid hap
          clear hap
          go_wp2_with (at_builtin; refine wpList_append_row2 rfl _ _ 39 rfl 2 (.int .i64 0) 1 8 Try.underlying39 info_Int64 (by first | kernel_rfl | simp [Value.cells]) (by decide) lo A0 n0 c0 zs rfl ((R.alloc _).alloc _) ⟨wr.heap.size + 1, 0, none⟩ 1 1 [xi] rfl rfl (cell_one_at _ _ _ _ (by simp)) (by unfold maxLen; omega) (by omega) (by simp; omega) ?_; intro A5 c5 w5 R5 B5 W5 L5)
          have RD5 := ((RD.alloc (.cells #[.int .i64 xi, .int .i64 xd] 87)).alloc (.cells #[.int .i64 xi] 2)).wrote W5 (apart_symm HAP.out)
          have hap5 : ∀ a b', A5 = some a → some (⟨b, off, none⟩ : Addr) = some b' → a.block ≠ b'.block := fun a b' ha hb' => by
            injection hb' with hb'
            subst hb'
            rcases L5 a ha with ⟨a0, e1, e2⟩ | e2
            · rw [← e2]; exact HAP.out _ _ e1 rfl
            · simp at e2
              show a.block ≠ b
              omega
          have hB : Below w.heap.size w w5 := btr ((hbl.alloc hzr (.cells #[.int .i64 xi, .int .i64 xd] 87)).alloc (by first | exact hzr | (simp; omega)) _) (B5.mono hlo)
          exact ⟨⟨k + 1, A5, n0 + 1, c5, _, by omega, by omega, by go_num, rfl, R5, hz2, RD5, hap5, hB⟩, by simp [intOf]; omega⟩
        · have hz2 := Lib.hid (show zs = dueTo (openR l) time (k + 1) by rw [HTS.out, if_neg hd, hz.out])
          have hdf : decide (xd ≤ time) = false := decide_eq_false hd
          clear hz HTS
          have HAP := Lib.hid hap
          clear hap
          go_wp2
          exact ⟨⟨k + 1, A0, n0, c0, zs, by omega, by omega, by go_num, rfl, (R.alloc _), hz2, (RD.alloc _), HAP.out, (hbl.alloc hzr _)⟩, by simp [intOf]; omega⟩
      · have hkn : k = m := by omega
        subst hkn
        have hlt' : ¬ (k : Int) < (k : Int) := by omega
        clear hap RD
        go_wp2
        go_ret
        have e1 : zs = dueR l time := by rw [hz.out]; unfold dueR; rw [HM.out]
        have e2 : zs.length = n0 := by have := R.len; omega
        rw [← e1, e2]
        exact RetRow.mk (R.mono hlo) hbl
set_option maxRecDepth 100000 in
set_option maxHeartbeats 4000000 in
theorem specDueJobs_any (A : Option Addr) (n cap : Nat) (l : List Jb) (time : Int) (w : World) (hS : Sl w 5 A n (JB l)) (hl : l.length = n) (hn : n ≤ maxLen) :
    Calls Try.prog 65 #[.slice A n cap, .int .i64 time] w (RetRow w 2 1 (dueR l time).length (dueR l time)) := by
  have HS := Lib.hid (fun (v : World) (hB : Below w.heap.size w v) => hS.below hB)
  clear hS
  go_enter Try.func65, Try.ntmps65
  go_wp2_with fail
  refine calls_named ?_
  rintro v hv
  have fv : Below w.heap.size w v := by rw [hv]; exact (Below.refl _ _).alloc (Nat.le_refl _) _
  have R0 : Row v w.heap.size 2 1 (some ⟨w.heap.size, 0, none⟩) 0 0 [] := by rw [hv]; exact row0p (Blk.new w _ _) (Nat.le_refl _)
  clear hv
  refine (specOpenJobs_any A n cap l v (HS.out v fv) hl hn).mono ?_
  rintro e w2 ⟨A2, c2, rfl, R2, b2⟩
  have R1 := R0.below b2
  have f2 := bthen fv b2
  obtain ⟨m, hm⟩ : ∃ x, (openR l).length = x := ⟨_, rfl⟩
  rw [hm] at R2 ⊢
  have hm8 : m ≤ 8 := by rw [← hm]; exact openR_len l
  have HM := Lib.hid hm
  obtain ⟨lo, hlo0⟩ : ∃ x, x = w.heap.size := ⟨_, rfl⟩
  have hlo : w.heap.size ≤ lo := by rw [hlo0]; exact Nat.le_refl _
  have hap : ∀ a b, (some (⟨w.heap.size, 0, none⟩ : Addr)) = some a → A2 = some b → a.block ≠ b.block := apart_of R0.lt R2.ge
  have hvlo : lo ≤ v.heap.size := by rw [hlo0]; exact fv.size
  replace R2 := R2.mono hvlo
  replace R1 := R1.mono (Nat.le_of_eq hlo0)
  clear hm b2 R0 fv HS
  go_wp2
  go_loopw [5, 7] (fun o iv wr => ∃ (k : Nat) (A0 : Option Addr) (n0 c0 : Nat) (zs : List Int), k ≤ m ∧ n0 ≤ k ∧ iv = .int .i64 (k : Nat) ∧ o = .slice A0 n0 c0 ∧ Row wr lo 2 1 A0 n0 c0 zs ∧ Hid (zs = dueTo (openR l) time k) ∧ Row wr lo 87 2 A2 m c2 (DU (openR l)) ∧ (∀ a b, A0 = some a → A2 = some b → a.block ≠ b.block) ∧ Below w.heap.size w wr) (fun _ iv _ => m - (intOf iv).toNat)
  case atStart => exact ⟨0, _, 0, _, [], Nat.zero_le _, Nat.le_refl _, rfl, rfl, R1, Lib.hid rfl, R2, hap, f2⟩
  case round =>
    clear R1 R2 hap f2
    obtain ⟨k, A0, n0, c0, zs, hk, hn0, rfl, rfl, R, hz, RD, hap, hbl⟩ := hrel
    have hzr := hbl.size
    by_cases hlt : k < m
    · have hlt' : (k : Int) < (m : Int) := by omega
      obtain ⟨b, off, rfl, hbb, hcell⟩ := sl_dues RD.sl (by omega)
      obtain ⟨h0, h1⟩ := hcell k hlt
      clear hcell
      have hge : lo ≤ b := RD.ge _ rfl
      have hts : dueTo (openR l) time (k + 1) = if ((openR l).getD k default).d ≤ time then dueTo (openR l) time k ++ [((openR l).getD k default).i] else dueTo (openR l) time k := rfl
      have HTS := Lib.hid hts
      clear hts
      generalize (openR l).getD k default = pk at h0 h1 HTS
      obtain ⟨xi, xd⟩ := pk
      simp only at h0 h1
      by_cases hd : xd ≤ time
      · have hz2 := Lib.hid (show zs ++ [xi] = dueTo (openR l) time (k + 1) by rw [HTS.out, if_pos hd, hz.out])
        clear hz HTS
        have HAP := Lib.hid hap
        clear hap
        go_wp2_with (at_builtin; refine wpList_append_row2 rfl _ _ 39 rfl 2 (.int .i64 0) 1 8 Try.underlying39 info_Int64 (by first | kernel_rfl | simp [Value.cells]) (by decide) lo A0 n0 c0 zs rfl (R.alloc _) ⟨wr.heap.size, 0, none⟩ 1 1 [xi] rfl rfl (cell_one_at _ _ _ _ (by simp)) (by unfold maxLen; omega) (by omega) (by simp; omega) ?_; intro A5 c5 w5 R5 B5 W5 L5)
        have RD5 := (RD.alloc (.cells #[.int .i64 xi] 2)).wrote W5 (apart_symm HAP.out)
        have hap5 : ∀ a b', A5 = some a → some (⟨b, off, none⟩ : Addr) = some b' → a.block ≠ b'.block := fun a b' ha hb' => by
          injection hb' with hb'
          subst hb'
          rcases L5 a ha with ⟨a0, e1, e2⟩ | e2
          · rw [← e2]; exact HAP.out _ _ e1 rfl
          · simp at e2
            show a.block ≠ b
            omega
        have hB : Below w.heap.size w w5 := btr (hbl.alloc (by first | exact hzr | (simp; omega)) _) (B5.mono hlo)
        exact ⟨⟨k + 1, A5, n0 + 1, c5, _, by omega, by omega, by go_num, rfl, R5, hz2, RD5, hap5, hB⟩, by simp [intOf]; omega⟩
      · have hz2 := Lib.hid (show zs = dueTo (openR l) time (k + 1) by rw [HTS.out, if_neg hd, hz.out])
        have hdf : decide (xd ≤ time) = false := decide_eq_false hd
        clear hz HTS
        have HAP := Lib.hid hap
        clear hap
        go_wp2
        exact ⟨⟨k + 1, A0, n0, c0, zs, by omega, by omega, by go_num, rfl, R, hz2, RD, HAP.out, hbl⟩, by simp [intOf]; omega⟩
    · have hkn : k = m := by omega
      subst hkn
      have hlt' : ¬ (k : Int) < (k : Int) := by omega
      clear hap RD
      go_wp2
      go_ret
      have e1 : zs = dueR l time := by rw [hz.out]; unfold dueR; rw [HM.out]
      have e2 : zs.length = n0 := by have := R.len; omega
      rw [← e1, e2]
      exact RetRow.mk (R.mono hlo) hbl
end Go.Proofs.Ytgpllffiahccjaa
