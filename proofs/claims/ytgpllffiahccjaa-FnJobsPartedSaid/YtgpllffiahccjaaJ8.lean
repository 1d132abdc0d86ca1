/- JobFired: the program's and the reference's. -/
import Derived.Test.YtgpllffiahccjaaAddL
import Derived.Test.YtgpllffiahccjaaJ5
import Derived.Test.YtgpllffiahccjaaJ7
import Derived.Test.YtgpllffiahccjaaSJob
import Derived.Test.YtgpllffiahccjaaP10
namespace Go.Proofs.Ytgpllffiahccjaa
set_option linter.unusedSimpArgs false
set_option linter.unusedVariables false
attribute [local go_sem] n_lt2 n_lt3 n_lt4 n_le2 n_le3
open Go.RowKit
attribute [local go_sem] Ext.cell Ext.frozen

set_option maxRecDepth 100000 in
set_option maxHeartbeats 800000 in
theorem copyJobs_any (A : Option Addr) (n cap : Nat) (l : List Jb) (w : World) (hS : Sl w 5 A n (JB l)) (hl : l.length = n) (hn : n ≤ 1000) (hA : A = none → n = 0 ∧ cap = 0) :
    Calls Try.prog 106 #[.slice A n cap] w (RetRow w 68 5 n (JB l)) := by
  have R0 : Row (w.alloc (.cells #[] 68)) w.heap.size 68 5 (some ⟨w.heap.size, 0, none⟩) 0 0 [] := row0p (Blk.new w _ _) (Nat.le_refl _)
  have hnw := fun ad (h : A = some ad) => sl_news (hS.below ((Below.refl w.heap.size w).alloc (Nat.le_refl _) (.cells #[] 68))) h
  have hPl : (JB l).length = n * 5 := by rw [JB_len, hl]
  cases A with
  | none =>
    obtain ⟨rfl, rfl⟩ := hA rfl
    have hz : JB l = [] := List.eq_nil_of_length_eq_zero (by omega)
    rw [hz]
    obtain ⟨i0, hi0, hz0, hs0, hy0⟩ := info_parts info_Job
    clear hnw hS hA hPl
    go_enter Try.func106, Try.ntmps106
    go_wp2_with (at_builtin; refine wpList_append_own_none rfl _ _ 51 rfl w.heap.size 68 i0 5 Try.underlying51 hi0 (.slice (some ⟨w.heap.size, 0, none⟩) 0 0) 0 [] rfl R0 rfl ?_)
    go_ret
    exact RetRow.mk R0 (by (repeat' (first | (with_reducible exact Below.refl _ _) | (with_reducible assumption) | (with_reducible refine Below.alloc ?_ ?_ _) | (with_reducible refine Below.drew ?_) | (with_reducible refine Below.setCell ?_ ?_ _) | (with_reducible refine bstep (by assumption) ?_ ?_) | (with_reducible exact Nat.le_refl _) | omega | (simp [*]; done) | (simp [*]; omega))))
  | some ad =>
    have hnw' := Lib.hid (hnw ad rfl)
    clear hnw hS hA
    go_enter Try.func106, Try.ntmps106
    go_wp2_with (at_builtin; refine wpList_append_row rfl _ _ 51 rfl 68 (.agg #[.int .i64 0, .int .i64 0, .int .i64 0, .int .i64 0, .int .i64 0]) 5 40 Try.underlying51 info_Job (by first | kernel_rfl | simp [Value.cells]) (by decide) w.heap.size (some ⟨w.heap.size, 0, none⟩) 0 0 [] rfl R0 ad n cap (JB l) rfl hPl hnw'.out (by unfold maxLen; omega) (by omega) (by simp) ?_; intro A5 c5 w5 R5 B5)
    go_ret
    simp only [Nat.zero_add, List.nil_append] at R5 ⊢
    exact RetRow.mk R5 (((Below.refl w.heap.size w).alloc (Nat.le_refl _) _).trans B5)
set_option maxRecDepth 100000 in
set_option maxHeartbeats 800000 in
theorem l15Copy_any (A : Option Addr) (n cap : Nat) (l : List Jb) (w : World) (hS : Sl w 5 A n (JB l)) (hl : l.length = n) (hn : n ≤ 1000) (hA : A = none → n = 0 ∧ cap = 0) :
    Calls Try.prog 105 #[.slice A n cap] w (RetRow w 68 5 n (JB l)) := by
  have R0 : Row (w.alloc (.cells #[] 68)) w.heap.size 68 5 (some ⟨w.heap.size, 0, none⟩) 0 0 [] := row0p (Blk.new w _ _) (Nat.le_refl _)
  have hnw := fun ad (h : A = some ad) => sl_news (hS.below ((Below.refl w.heap.size w).alloc (Nat.le_refl _) (.cells #[] 68))) h
  have hPl : (JB l).length = n * 5 := by rw [JB_len, hl]
  cases A with
  | none =>
    obtain ⟨rfl, rfl⟩ := hA rfl
    have hz : JB l = [] := List.eq_nil_of_length_eq_zero (by omega)
    rw [hz]
    obtain ⟨i0, hi0, hz0, hs0, hy0⟩ := info_parts info_Job
    clear hnw hS hA hPl
    go_enter Try.func105, Try.ntmps105
    go_wp2_with (at_builtin; refine wpList_append_own_none rfl _ _ 51 rfl w.heap.size 68 i0 5 Try.underlying51 hi0 (.slice (some ⟨w.heap.size, 0, none⟩) 0 0) 0 [] rfl R0 rfl ?_)
    go_ret
    exact RetRow.mk R0 (by (repeat' (first | (with_reducible exact Below.refl _ _) | (with_reducible assumption) | (with_reducible refine Below.alloc ?_ ?_ _) | (with_reducible refine Below.drew ?_) | (with_reducible refine Below.setCell ?_ ?_ _) | (with_reducible refine bstep (by assumption) ?_ ?_) | (with_reducible exact Nat.le_refl _) | omega | (simp [*]; done) | (simp [*]; omega))))
  | some ad =>
    have hnw' := Lib.hid (hnw ad rfl)
    clear hnw hS hA
    go_enter Try.func105, Try.ntmps105
    go_wp2_with (at_builtin; refine wpList_append_row rfl _ _ 51 rfl 68 (.agg #[.int .i64 0, .int .i64 0, .int .i64 0, .int .i64 0, .int .i64 0]) 5 40 Try.underlying51 info_Job (by first | kernel_rfl | simp [Value.cells]) (by decide) w.heap.size (some ⟨w.heap.size, 0, none⟩) 0 0 [] rfl R0 ad n cap (JB l) rfl hPl hnw'.out (by unfold maxLen; omega) (by omega) (by simp) ?_; intro A5 c5 w5 R5 B5)
    go_ret
    simp only [Nat.zero_add, List.nil_append] at R5 ⊢
    exact RetRow.mk R5 (((Below.refl w.heap.size w).alloc (Nat.le_refl _) _).trans B5)
theorem open_any (a b c d e : Int) (w : World) :
    Calls Try.prog 109 #[.agg #[.int .i64 a, .int .i64 b, .int .i64 c, .int .i64 d, .int .i64 e]] w fun e' w' => e' = .returned (.bool (decide (e = 0))) ∧ Below w.heap.size w w' := by
  go_enter Try.func109, Try.ntmps109
  go_wp2
  go_ret
  exact ⟨ret_bool (by by_cases h : e = 0 <;> simp [h]), by (repeat' (first | (with_reducible exact Below.refl _ _) | (with_reducible assumption) | (with_reducible refine Below.alloc ?_ ?_ _) | (with_reducible refine Below.drew ?_) | (with_reducible refine Below.setCell ?_ ?_ _) | (with_reducible refine bstep (by assumption) ?_ ?_) | (with_reducible exact Nat.le_refl _) | omega | (simp [*]; done) | (simp [*]; omega)))⟩
theorem indexOk_any (x : Int) (w : World) :
    Calls Try.prog 110 #[.int .i64 x] w fun e w' => e = .returned (.bool (inB x 1 2000)) ∧ w = w' := by
  go_enter Try.func110, Try.ntmps110
  go_wp2_with ((go_at_call 70; refine (between_any _ _ _ _).mono ?_; rintro e w' ⟨rfl, rfl⟩))
  go_ret; exact ⟨rfl, rfl⟩
def RetJobs (w : World) (r : List Jb × Bool) (e : Ending) (w' : World) : Prop := RetRowB w 68 5 r.1.length (JB r.1) r.2 e w'
theorem retJobs {w w' : World} {r : List Jb × Bool} {l' : List Jb} {A : Option Addr} {n cap : Nat} {b : Bool} (h : r = (l', b)) (hn : n = l'.length) (R : Row w' w.heap.size 68 5 A n cap (JB l')) (hb : Below w.heap.size w w') :
    RetJobs w r (.returned (.tuple #[.slice A n cap, .bool b])) w' := by
  unfold RetJobs
  rw [h]
  subst hn
  exact ⟨A, cap, rfl, R, hb⟩
theorem firedSet_row {w : World} {g lo n cap k : Nat} {cs : Array Value} {l : List Jb} {v : Int} (K : Blk w g 68 cs) (hlo : lo ≤ g) (hnc : n ≤ cap) (hcm : cap ≤ maxLen) (hcs : cs.size = cap * 5) (hl : l.length = n) (hj : ∀ j, j < n * 5 → cs[j]? = some (.int .i64 ((JB l).getD j 0)))
    (hk : k < n) : Row (w.setCell ⟨g, k * 5 + 4, none⟩ (.int .i64 v)) lo 68 5 (some ⟨g, 0, none⟩) n cap (JB (firedSet l k v)) := by
  refine Row.of_blk (K.set_ _ _) hlo hnc hcm (by simpa using hcs) (by rw [JB_len]; simp [firedSet]; omega) (fun t ht => ?_)
  rw [JB_fired_getD l k v (by omega) t (by omega)]
  by_cases h : t = k * 5 + 4
  · subst h
    rw [if_pos rfl, Array.getElem?_setIfInBounds_self_of_lt (by omega)]
  · rw [if_neg h, Array.getElem?_setIfInBounds_ne (by omega), hj t ht]
theorem Row.cells5 {w : World} {lo : Nat} {A : Option Addr} {n cap : Nat} {l : List Jb} (R : Row w lo 68 5 A n cap (JB l)) (hl : l.length = n) (hn : 0 < n) :
    ∃ g cs, A = some ⟨g, 0, none⟩ ∧ lo ≤ g ∧ Blk w g 68 cs ∧ cs.size = cap * 5 ∧ (∀ j, j < n * 5 → cs[j]? = some (.int .i64 ((JB l).getD j 0))) ∧
      ∀ i, i < n → w.cell? ⟨g, i * 5, none⟩ = some (.int .i64 (l.getD i default).i) ∧ w.cell? ⟨g, i * 5 + 1, none⟩ = some (.int .i64 (l.getD i default).d) ∧ w.cell? ⟨g, i * 5 + 2, none⟩ = some (.int .i64 (l.getD i default).k) ∧ w.cell? ⟨g, i * 5 + 3, none⟩ = some (.int .i64 (l.getD i default).v) ∧ w.cell? ⟨g, i * 5 + 4, none⟩ = some (.int .i64 (l.getD i default).f) := by
  obtain ⟨g, cs, hA, hlo, K, _, _, hcs, hj⟩ := R.blk hn
  have hg : ∀ i, i < n → ∀ j, j < 5 → w.cell? ⟨g, i * 5 + j, none⟩ = some (.int .i64 ([(l.getD i default).i, (l.getD i default).d, (l.getD i default).k, (l.getD i default).v, (l.getD i default).f].getD j 0)) := fun i hi j hj' => by
    rw [K.cell, hj _ (by omega), JB_get l i j (by omega) hj']
  exact ⟨g, cs, hA, hlo, K, hcs, hj, fun i hi => ⟨hg i hi 0 (by decide), hg i hi 1 (by decide), hg i hi 2 (by decide), hg i hi 3 (by decide), hg i hi 4 (by decide)⟩⟩

set_option maxRecDepth 100000 in
set_option maxHeartbeats 4000000 in
theorem jobFired_walk (A : Option Addr) (n cap : Nat) (l : List Jb) (id x : Int) (w : World) (hS : Sl w 5 A n (JB l)) (hl : l.length = n) (hn : n ≤ maxLen) (hA : A = none → n = 0 ∧ cap = 0) :
    Calls Try.prog 47 #[.slice A n cap, .int .i64 id, .int .i64 x] w (RetJobs w (firedR l id x)) := by
  have c1 := jobsOk_any A n cap l w hS hl hn
  by_cases hpa : jobsB l = true
  · have h8 : n ≤ 8 := by have := (jobsB_all hpa).1; omega
    rw [hpa] at c1
    have HL := Lib.hid hl
    have HS := Lib.hid hS
    have HPA := Lib.hid hpa
    clear hpa hl hS
    by_cases hk : jobIx l id < l.length
    · have ha : placeJ l id = (jobIx l id : Int) := by unfold placeJ; rw [if_pos hk]
      have HK0 := Lib.hid hk
      obtain ⟨k, hkk⟩ : ∃ k, k = jobIx l id := ⟨_, rfl⟩
      rw [← hkk] at ha hk
      have HKK := Lib.hid hkk
      have HA := Lib.hid ha
      have hkn : k < n := by have := HL.out; omega
      have hkn' : (k : Int) < (n : Int) := by omega
      clear hk hkk ha
      have pre : ∀ w1, Below w.heap.size w w1 → Calls Try.prog 106 #[.slice A n cap] w1 (RetRow w1 68 5 n (JB l)) := fun w1 b1 => copyJobs_any A n cap l w1 (HS.out.below b1) HL.out (by omega) hA
      have PRE := Lib.hid pre
      clear pre
      by_cases hf0 : (l.getD k default).f = 0
      · by_cases hin : inB x 1 2000 = true
        · by_cases hfb : l.findIdx (fun p => decide (p.f = x)) < l.length
          · -- another job has that index
            have HF := Lib.hid (show firedR l id x = (l, false) by unfold firedR; rw [if_pos HPA.out, if_neg]; unfold firedOk; rw [firIx_hit hfb]; simp)
            have hpf : placeF l x = (firIx l x : Int) := by unfold placeF firIx; rw [if_pos hfb]
            have HPF := Lib.hid hpf
            clear hpf hfb
            generalize firIx l x = kf at HPF
            have hf0' := Lib.hid hf0
            clear hf0
            go_enter Try.func47, Try.ntmps47
            go_wp2_with fail
            refine c1.mono ?_
            rintro e w1 ⟨rfl, b1⟩
            go_wp2_with fail
            refine (PRE.out w1 b1).mono ?_
            rintro e w2 ⟨A2, cap2, rfl, R2, b2⟩
            have f2 := bthen b1 b2
            have c3 := placeJob_any A2 n cap2 l id w2 R2.sl HL.out (by unfold maxLen; omega)
            rw [HA.out] at c3
            go_wp2_with fail
            refine c3.mono ?_
            rintro e w3 ⟨rfl, b3⟩
            have R3 := (R2.below b3).mono b1.size
            have f3 := bthen f2 b3
            obtain ⟨g, cs, rfl, hlg, K, hcs, hj, hcell⟩ := R3.cells5 HL.out (by omega)
            obtain ⟨h0, h1, h2, h3, h4⟩ := hcell k hkn
            rw [hf0'.out] at h4
            have hcm : cap2 ≤ 9223372036854775807 := by have := R3.cap_le.2; unfold maxLen at this; omega
            clear hcell hj hcs
            generalize (l.getD k default).i = y0 at h0
            generalize (l.getD k default).d = y1 at h1
            generalize (l.getD k default).k = y2 at h2
            generalize (l.getD k default).v = y3 at h3
            go_wp2_with fail
            refine (open_any _ _ _ _ _ _).mono ?_
            rintro e w4 ⟨rfl, b4⟩
            have R4 := R3.below b4
            have f4 := bthen f3 b4
            go_wp2_with ((go_at_call 110; refine (indexOk_any _ _).mono ?_; rintro e w' ⟨rfl, rfl⟩))
            have c5 := placeFir_any (some ⟨g, 0, none⟩) n cap2 l x w4 R4.sl HL.out (by unfold maxLen; omega)
            rw [HPF.out] at c5
            refine c5.mono ?_
            rintro e w5 ⟨rfl, b5⟩
            have R5 := R4.below b5
            have f5 := bthen f4 b5
            go_wp2
            refine bodyPost_ret (v := .tuple #[.slice (some ⟨g, 0, none⟩) n cap2, .bool false]) (by simp [results, Try.results47, go_sem, *]) rfl ?_
            exact retJobs HF.out HL.out.symm R5 f5
          · have HF := Lib.hid (show firedR l id x = (firedSet l k x, true) by
              unfold firedR
              rw [if_pos HPA.out, if_pos, HKK.out]
              unfold firedOk
              rw [firIx_miss hfb, hin, ← HKK.out, decide_eq_true (by have := HL.out; omega), decide_eq_true hf0]
              rfl)
            have hpf : placeF l x = -1 := by unfold placeF firIx; rw [if_neg hfb]
            have HPF := Lib.hid hpf
            have hf0' := Lib.hid hf0
            clear hpf hfb hf0
            go_enter Try.func47, Try.ntmps47
            go_wp2_with fail
            refine c1.mono ?_
            rintro e w1 ⟨rfl, b1⟩
            go_wp2_with fail
            refine (PRE.out w1 b1).mono ?_
            rintro e w2 ⟨A2, cap2, rfl, R2, b2⟩
            have f2 := bthen b1 b2
            have c3 := placeJob_any A2 n cap2 l id w2 R2.sl HL.out (by unfold maxLen; omega)
            rw [HA.out] at c3
            go_wp2_with fail
            refine c3.mono ?_
            rintro e w3 ⟨rfl, b3⟩
            have R3 := (R2.below b3).mono b1.size
            have f3 := bthen f2 b3
            obtain ⟨g, cs, rfl, hlg, K, hcs, hj, hcell⟩ := R3.cells5 HL.out (by omega)
            obtain ⟨h0, h1, h2, h3, h4⟩ := hcell k hkn
            rw [hf0'.out] at h4
            have hcp := R3.cap_le
            have hcm : cap2 ≤ 9223372036854775807 := by have := hcp.2; unfold maxLen at this; omega
            have HJ := Lib.hid (And.intro hcs (And.intro hj hcp))
            clear hcell hj hcs hcp
            generalize (l.getD k default).i = y0 at h0
            generalize (l.getD k default).d = y1 at h1
            generalize (l.getD k default).k = y2 at h2
            generalize (l.getD k default).v = y3 at h3
            go_wp2_with fail
            refine (open_any _ _ _ _ _ _).mono ?_
            rintro e w4 ⟨rfl, b4⟩
            have R4 := R3.below b4
            have f4 := bthen f3 b4
            go_wp2_with ((go_at_call 110; refine (indexOk_any _ _).mono ?_; rintro e w' ⟨rfl, rfl⟩))
            have c5 := placeFir_any (some ⟨g, 0, none⟩) n cap2 l x w4 R4.sl HL.out (by unfold maxLen; omega)
            rw [HPF.out] at c5
            refine c5.mono ?_
            rintro e w5 ⟨rfl, b5⟩
            have K5 := (K.below b4).below b5
            have f5 := bthen f4 b5
            have hc5 : ∃ c, w5.cell? ⟨g, k * 5 + 4, none⟩ = some c := K5.has (by have := HJ.out.1; have := HJ.out.2.2.1; omega)
            obtain ⟨c, hc5⟩ := hc5
            have hfz := K5.frozen (k * 5 + 4)
            have HK5 := Lib.hid K5
            clear h0 h1 h2 h3 h4 K K5 c3 c5
            go_wp2
            refine bodyPost_ret (v := .tuple #[.slice (some ⟨g, 0, none⟩) n cap2, .bool true]) (by simp [results, Try.results47, go_sem, *]) rfl ?_
            exact retJobs HF.out (by simp [firedSet, HL.out]) (firedSet_row HK5.out hlg HJ.out.2.2.1 HJ.out.2.2.2 HJ.out.1 HL.out HJ.out.2.1 hkn) (f5.setCell hlg _)
        · have hin' : inB x 1 2000 = false := by simpa using hin
          have HF := Lib.hid (show firedR l id x = (l, false) by unfold firedR; rw [if_pos HPA.out, if_neg]; unfold firedOk; rw [hin']; simp)
          have hf0' := Lib.hid hf0
          clear hf0 hin
          go_enter Try.func47, Try.ntmps47
          go_wp2_with fail
          refine c1.mono ?_
          rintro e w1 ⟨rfl, b1⟩
          go_wp2_with fail
          refine (PRE.out w1 b1).mono ?_
          rintro e w2 ⟨A2, cap2, rfl, R2, b2⟩
          have f2 := bthen b1 b2
          have c3 := placeJob_any A2 n cap2 l id w2 R2.sl HL.out (by unfold maxLen; omega)
          rw [HA.out] at c3
          go_wp2_with fail
          refine c3.mono ?_
          rintro e w3 ⟨rfl, b3⟩
          have R3 := (R2.below b3).mono b1.size
          have f3 := bthen f2 b3
          obtain ⟨g, cs, rfl, hlg, K, hcs, hj, hcell⟩ := R3.cells5 HL.out (by omega)
          obtain ⟨h0, h1, h2, h3, h4⟩ := hcell k hkn
          rw [hf0'.out] at h4
          have hcm : cap2 ≤ 9223372036854775807 := by have := R3.cap_le.2; unfold maxLen at this; omega
          clear hcell hj hcs
          generalize (l.getD k default).i = y0 at h0
          generalize (l.getD k default).d = y1 at h1
          generalize (l.getD k default).k = y2 at h2
          generalize (l.getD k default).v = y3 at h3
          go_wp2_with fail
          refine (open_any _ _ _ _ _ _).mono ?_
          rintro e w4 ⟨rfl, b4⟩
          have R4 := R3.below b4
          have f4 := bthen f3 b4
          go_wp2_with ((go_at_call 110; refine (indexOk_any _ _).mono ?_; rintro e w' ⟨rfl, rfl⟩))
          refine bodyPost_ret (v := .tuple #[.slice (some ⟨g, 0, none⟩) n cap2, .bool false]) (by simp [results, Try.results47, go_sem, *]) rfl ?_
          exact retJobs HF.out HL.out.symm R4 f4
      · have HF := Lib.hid (show firedR l id x = (l, false) by
          unfold firedR
          rw [if_pos HPA.out, if_neg]
          unfold firedOk
          rw [← HKK.out, decide_eq_false hf0]
          simp)
        have HF0 := Lib.hid hf0
        clear hf0
        go_enter Try.func47, Try.ntmps47
        go_wp2_with fail
        refine c1.mono ?_
        rintro e w1 ⟨rfl, b1⟩
        go_wp2_with fail
        refine (PRE.out w1 b1).mono ?_
        rintro e w2 ⟨A2, cap2, rfl, R2, b2⟩
        have f2 := bthen b1 b2
        have c3 := placeJob_any A2 n cap2 l id w2 R2.sl HL.out (by unfold maxLen; omega)
        rw [HA.out] at c3
        go_wp2_with fail
        refine c3.mono ?_
        rintro e w3 ⟨rfl, b3⟩
        have R3 := (R2.below b3).mono b1.size
        have f3 := bthen f2 b3
        obtain ⟨g, cs, rfl, hlg, K, hcs, hj, hcell⟩ := R3.cells5 HL.out (by omega)
        obtain ⟨h0, h1, h2, h3, h4⟩ := hcell k hkn
        have hcm : cap2 ≤ 9223372036854775807 := by have := R3.cap_le.2; unfold maxLen at this; omega
        clear hcell hj hcs
        generalize (l.getD k default).i = y0 at h0
        generalize (l.getD k default).d = y1 at h1
        generalize (l.getD k default).k = y2 at h2
        generalize (l.getD k default).v = y3 at h3
        have hff : ¬ (l.getD k default).f = 0 := HF0.out
        generalize (l.getD k default).f = y4 at h4 hff
        have hd := decide_eq_false hff
        go_wp2_with fail
        refine (open_any _ _ _ _ _ _).mono ?_
        rintro e w4 ⟨rfl, b4⟩
        rw [hd]
        have R4 := R3.below b4
        have f4 := bthen f3 b4
        clear hff hd
        go_wp2
        refine bodyPost_ret (v := .tuple #[.slice (some ⟨g, 0, none⟩) n cap2, .bool false]) (by simp [results, Try.results47, go_sem, *]) rfl ?_
        exact retJobs HF.out HL.out.symm R4 f4
    · have ha : placeJ l id = -1 := by unfold placeJ; rw [if_neg hk]
      have HA := Lib.hid ha
      have HF := Lib.hid (show firedR l id x = (l, false) by unfold firedR; rw [if_pos HPA.out, if_neg]; unfold firedOk; rw [decide_eq_false hk]; simp)
      clear ha hk
      go_enter Try.func47, Try.ntmps47
      go_wp2_with fail
      refine c1.mono ?_
      rintro e w1 ⟨rfl, b1⟩
      go_wp2_with fail
      refine (copyJobs_any A n cap l w1 (HS.out.below b1) HL.out (by omega) hA).mono ?_
      rintro e w2 ⟨A2, cap2, rfl, R2, b2⟩
      have f2 := bthen b1 b2
      have c3 := placeJob_any A2 n cap2 l id w2 R2.sl HL.out (by unfold maxLen; omega)
      rw [HA.out] at c3
      go_wp2_with fail
      refine c3.mono ?_
      rintro e w3 ⟨rfl, b3⟩
      have R3 := (R2.below b3).mono b1.size
      go_wp2
      refine bodyPost_ret (v := .tuple #[.slice A2 n cap2, .bool false]) (by simp [results, Try.results47, go_sem, *]) rfl ?_
      exact retJobs HF.out HL.out.symm R3 (bthen f2 b3)
  · have hpa' : jobsB l = false := by simpa using hpa
    have HF := Lib.hid (show firedR l id x = ([], false) by unfold firedR; rw [if_neg hpa])
    rw [hpa'] at c1
    go_enter Try.func47, Try.ntmps47
    go_wp2_with fail
    refine c1.mono ?_
    rintro e w1 ⟨rfl, b1⟩
    go_wp2
    refine bodyPost_ret (v := .tuple #[.slice none 0 0, .bool false]) (by simp [results, Try.results47, go_sem, *]) rfl ?_
    exact retJobs HF.out rfl (Row.nil _ _ _ _) b1
end Go.Proofs.Ytgpllffiahccjaa
