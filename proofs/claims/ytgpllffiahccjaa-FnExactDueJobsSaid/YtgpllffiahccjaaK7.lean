/- The program's OpenJobs. -/
import Derived.Test.YtgpllffiahccjaaK6
namespace Go.Proofs.Ytgpllffiahccjaa
set_option linter.unusedSimpArgs false
set_option linter.unusedVariables false
attribute [local go_sem] n_lt2 n_lt3 n_lt4 n_le2 n_le3
open Go.RowKit
attribute [local go_sem] Ext.cell Ext.frozen
/-- What OpenJobs hands back. -/
def openR (l : List Jb) : List Du := if jobsB l = true then openL l else []
theorem openR_len (l : List Jb) : (openR l).length ≤ 8 := by
  unfold openR
  split
  · rename_i h
    exact Nat.le_trans (openL_len l) (jobsB_all h).1
  · exact Nat.zero_le _
theorem take_duOf_succ {l : List Jb} {k : Nat} (h : k < l.length) : DU ((l.take k).map duOf) ++ [(l.getD k default).i, (l.getD k default).d] = DU ((l.take (k + 1)).map duOf) := by
  rw [take_succ_getD h, List.map_append, DU_append]
  rfl
theorem cell_two_at' (w : World) (x0 x1 : Value) (t : TypeId) (g : Nat) (hg : g = w.heap.size) : ∀ j u, [x0, x1][j]? = some u → (w.alloc (.cells #[x0, x1] t)).cell? ((⟨g, 0, none⟩ : Addr).add j) = some u := by
  subst hg
  intro j u hj
  match j, hj with
  | 0, hj => simp at hj; subst hj; simp [Addr.add]
  | 1, hj => simp at hj; subst hj; simp [Addr.add]
set_option maxRecDepth 100000 in
set_option maxHeartbeats 4000000 in
theorem openJobs_any (A : Option Addr) (n cap : Nat) (l : List Jb) (w : World) (hS : Sl w 5 A n (JB l)) (hl : l.length = n) (hn : n ≤ maxLen) :
    Calls Try.prog 54 #[.slice A n cap] w (RetRow w 87 2 (openR l).length (DU (openR l))) := by
  have c1 := jobsOk_any A n cap l w hS hl hn
  cases hb : jobsB l with
  | false =>
    have hr : openR l = [] := by unfold openR; rw [hb]; rfl
    rw [hr]
    rw [hb] at c1
    go_enter Try.func54, Try.ntmps54
    go_wp2_with fail
    refine c1.mono ?_
    rintro e w1 ⟨rfl, b1⟩
    go_wp2
    go_ret
    exact RetRow.mk (Row.nil _ _ _ _) b1
  | true =>
    have hr : openR l = openL l := by unfold openR; rw [hb]; rfl
    rw [hr]
    rw [hb] at c1
    have h8 := (jobsB_all hb).1
    have hn8 : n ≤ 8 := by omega
    have HS := Lib.hid hS
    have HB := Lib.hid hb
    have hfl : (l.filter openJ).length ≤ 8 := Nat.le_trans (List.length_filter_le _ _) h8
    clear hr hS hb h8
    go_enter Try.func54, Try.ntmps54
    go_wp2_with fail
    refine c1.mono ?_
    rintro e w1 ⟨rfl, b1⟩
    clear c1
    go_wp2_with fail
    refine calls_named ?_
    rintro v hv
    have bv : Below w1.heap.size w1 v := by rw [hv]; exact (Below.refl _ _).alloc (Nat.le_refl _) _
    have R0 : Row v w1.heap.size 87 2 (some ⟨w1.heap.size, 0, none⟩) 0 0 [] := by rw [hv]; exact row0p (Blk.new w1 _ _) (Nat.le_refl _)
    clear hv
    have fv := bthen b1 bv
    refine (chosen_open_any A n cap l v (HS.out.below fv) hl (by omega)).mono ?_
    rintro e w2 ⟨g, c, rfl, R2, b2⟩
    have R1 := R0.below b2
    have f2 := bthen fv b2
    have hz := b1.size
    have hzv := fv.size
    have hlt1 : w1.heap.size < v.heap.size := R0.lt _ rfl
    obtain ⟨y, hy⟩ : ∃ y, l.filter openJ = y := ⟨_, rfl⟩
    rw [hy] at R2 hfl
    rw [hy]
    have HY := Lib.hid hy
    obtain ⟨m, hm⟩ : ∃ m, y.length = m := ⟨_, rfl⟩
    rw [hm] at R2 hfl
    rw [hm]
    have HM := Lib.hid hm
    have HR2 := Lib.hid R2
    have hgv := R2.ge _ rfl
    have hgne : g ≠ w1.heap.size := by have : v.heap.size ≤ g := hgv; omega
    clear hy hm b1 b2 R0 R2 bv fv
    go_wp2
    go_loopw [3, 13] (fun o iv wr => ∃ (k : Nat) (g0 : Nat) (c0 : Nat), k ≤ m ∧ iv = .int .i64 (k : Nat) ∧ o = .slice (some ⟨g0, 0, none⟩) k c0 ∧ Row wr w1.heap.size 87 2 (some ⟨g0, 0, none⟩) k c0 (DU ((y.take k).map duOf)) ∧ Row wr v.heap.size 68 5 (some ⟨g, 0, none⟩) m c (JB y) ∧ g0 ≠ g ∧ Below w.heap.size w wr) (fun _ iv _ => m - (intOf iv).toNat)
    case atStart => exact ⟨0, w1.heap.size, 0, Nat.zero_le _, rfl, rfl, R1, HR2.out, fun h => hgne h.symm, f2⟩
    case round =>
      clear R1 f2 HR2
      obtain ⟨k, g0, c0, hk, rfl, rfl, R, RJ, hgg, hbl⟩ := hrel
      by_cases hlt : k < m
      · have hlt' : (k : Int) < (m : Int) := by omega
        obtain ⟨b, off, hA, hbb, hcell⟩ := sl_jobs RJ.sl (by omega)
        injection hA with hA
        injection hA with hA1 hA2
        subst hA1 hA2
        obtain ⟨h0, h1, h2, h3, h4⟩ := hcell k hlt
        clear hcell
        simp only [Nat.zero_add] at h0 h1 h2 h3 h4
        have hts := Lib.hid (take_duOf_succ (l := y) (k := k) (by rw [HM.out]; exact hlt))
        generalize y.getD k default = pk at h0 h1 h2 h3 h4 hts
        obtain ⟨x0, x1, x2, x3, x4⟩ := pk
        simp only at h0 h1 h2 h3 h4
        have hzr := hbl.size
        have hzw : w1.heap.size ≤ wr.heap.size := Nat.le_of_lt (Nat.lt_of_lt_of_le hlt1 (Nat.le_trans hgv (Nat.le_of_lt hbb)))
        go_wp2_with (at_builtin; refine wpList_append_row2 rfl _ _ 74 rfl 87 (.agg #[.int .i64 0, .int .i64 0]) 2 16 Try.underlying74 info_Due (by first | kernel_rfl | simp [Value.cells]) (by decide) w1.heap.size (some ⟨g0, 0, none⟩) k c0 (DU ((y.take k).map duOf)) rfl ((R.alloc _).alloc _) ⟨wr.heap.size + 1, 0, none⟩ 1 1 [x0, x1] rfl rfl (cell_two_at' _ _ _ _ _ (by simp)) (by unfold maxLen; omega) (by omega) (by simp; omega) ?_; intro A5 c5 w5 R5 B5 W5 L5; obtain ⟨g5, cs5, rfl, _⟩ := R5.blk (Nat.succ_pos _))
        rw [hts.out] at R5
        have RJ5 := ((RJ.alloc (.cells #[.int .i64 x0, .int .i64 x1, .int .i64 x2, .int .i64 x3, .int .i64 x4] 68)).alloc (.cells #[.int .i64 x0, .int .i64 x1] 87)).wrote W5 (fun a b ha hb => by injection ha with ha; injection hb with hb; subst ha; subst hb; exact fun h => hgg h.symm)
        have hg5 : g5 ≠ g := by
          rcases L5 _ rfl with ⟨a0, e1, e2⟩ | e2
          · injection e1 with e1; subst e1; intro h; exact hgg (e2.trans h)
          · simp at e2; omega
        have hB : Below w.heap.size w w5 := btr ((hbl.alloc hzr _).alloc (by simp; omega) _) (B5.mono hz)
        exact ⟨⟨k + 1, g5, c5, by omega, by go_num, rfl, R5, RJ5, hg5, hB⟩, by simp [intOf]; omega⟩
      · have hkn : k = m := by omega
        subst hkn
        have hlt' : ¬ (k : Int) < (k : Int) := by omega
        have e1 : (y.take k).map duOf = opens l := by rw [List.take_of_length_le (Nat.le_of_eq HM.out), ← HY.out]; rfl
        rw [e1] at R
        have e2 : (opens l).length = k := by unfold opens; rw [List.length_map, HY.out]; exact HM.out
        have HE2 := Lib.hid e2
        clear e1 e2 RJ
        go_wp2_with fail
        refine (sortOpen_any w1.heap.size g0 k c0 (opens l) wr HE2.out (by omega) R).mono ?_
        rintro e w3 ⟨rfl, s, hp, hs, R3, W3⟩
        have f3 : Below w.heap.size w w3 := W3.below hbl hbl.size (fun x hx => by obtain rfl := Option.some.inj hx; exact Nat.le_trans hz (R.ge _ rfl))
        have hfs : s = openL l := openL_of HB.out hp hs
        have hsm : (openL l).length = k := by rw [← hfs, hp.length_eq]; exact HE2.out
        subst hfs
        have HSM := Lib.hid hsm
        have R4 := R3.mono hz
        clear hp hs R R3 W3 hsm
        go_wp2
        go_ret
        rw [HSM.out]
        exact RetRow.mk R4 f3
end Go.Proofs.Ytgpllffiahccjaa
