/- JobAdded: the reference's. -/
import Derived.Test.YtgpllffiahccjaaJ10
namespace Go.Proofs.Ytgpllffiahccjaa
set_option linter.unusedSimpArgs false
set_option linter.unusedVariables false
attribute [local go_sem] n_lt2 n_lt3 n_lt4 n_le2 n_le3
open Go.RowKit
attribute [local go_sem] Ext.cell Ext.frozen

set_option maxRecDepth 100000 in
set_option maxHeartbeats 4000000 in
theorem specJobAdded_walk (A : Option Addr) (n cap : Nat) (l : List Jb) (x0 x1 x2 x3 x4 : Int) (w : World) (hS : Sl w 5 A n (JB l)) (hl : l.length = n) (hn : n ≤ maxLen) (hA : A = none → n = 0 ∧ cap = 0) :
    Calls Try.prog 151 #[.slice A n cap, .agg #[.int .i64 x0, .int .i64 x1, .int .i64 x2, .int .i64 x3, .int .i64 x4]] w (RetJobs w (addR l ⟨x0, x1, x2, x3, x4⟩)) := by
  by_cases hpa : jobsB l = true
  · have h8 : n ≤ 8 := by have := (jobsB_all hpa).1; omega
    have HL := Lib.hid hl
    have HS := Lib.hid hS
    have HPA := Lib.hid hpa
    have hjr : ∀ key, jobAtR l key = jobAtV l key := fun key => by unfold jobAtR; rw [if_pos hpa]
    have HJR := Lib.hid hjr
    obtain ⟨⟨⟨y0, y1, y2, y3, y4⟩, u⟩, hva⟩ : ∃ v, jobAtV l x0 = v := ⟨_, rfl⟩
    have HVA := Lib.hid hva
    have hu : (jobAtV l x0).2 = u := by rw [hva]
    have HU := Lib.hid hu
    clear hpa hl hS hva hu hjr
    go_enter Try.func151, Try.ntmps151
    go_wp2_with fail
    refine calls_named ?_
    rintro w0 hw0
    have K0 : Blk w0 w.heap.size 68 #[.int .i64 x0, .int .i64 x1, .int .i64 x2, .int .i64 x3, .int .i64 x4] := by rw [hw0]; exact Blk.new _ _ _
    have b0 : Below w.heap.size w w0 := by rw [hw0]; (repeat' (first | (with_reducible exact Below.refl _ _) | (with_reducible assumption) | (with_reducible refine Below.alloc ?_ ?_ _) | (with_reducible refine Below.drew ?_) | (with_reducible refine Below.setCell ?_ ?_ _) | (with_reducible refine bstep (by assumption) ?_ ?_) | (with_reducible exact Nat.le_refl _) | omega | (simp [*]; done) | (simp [*]; omega)))
    clear hw0
    have c1 := specJobsOk_any A n cap l w0 (HS.out.below b0) HL.out hn
    rw [HPA.out] at c1
    refine c1.mono ?_
    rintro e w1 ⟨rfl, b1⟩
    have K1 := K0.below b1
    have f1 := bthen b0 b1
    clear K0 b0 b1 c1
    have c3 := specJobAt_any A n cap l x0 w1 (HS.out.below f1) HL.out hn
    rw [HJR.out, HVA.out] at c3
    have q0 := (boxed5 K1).1
    have lt1 := K1.lt
    go_wp2_with fail
    refine c3.mono ?_
    rintro e w2 ⟨rfl, b2⟩
    have K2 := K1.below b2
    have f2 := bthen f1 b2
    have hs2 := f2.size
    clear q0 lt1 c3 K1 f1 b2
    have lt2 := K2.lt
    obtain ⟨q0, q1, q2, q3, q4⟩ := boxed5 K2
    have HK2 := Lib.hid K2
    clear K2
    go_wp2_with fail
    refine (specJobOk_any _ _ _ _ _ _).mono ?_
    rintro e w4 ⟨rfl, b4⟩
    have K4 := (HK2.out.alloc _).below b4
    have f4 := bstep b4 (f2.alloc hs2 _) (by simp; omega)
    have lt4 := K4.lt
    clear q0 q1 q2 q3 q4 b4 f2 HK2 hs2 lt2
    obtain ⟨q0, q1, q2, q3, q4⟩ := boxed5 K4
    have HK4 := Lib.hid K4
    have hs4 := f4.size
    clear K4
    by_cases hyes : addOk l ⟨x0, x1, x2, x3, x4⟩ = true
    · have hy := hyes
      unfold addOk jobOkB at hy
      simp only [Bool.and_eq_true, decide_eq_true_eq, Bool.not_eq_true'] at hy
      obtain ⟨hok, hf, hu, hlt8⟩ := hy
      rw [HU.out] at hu
      subst hu
      rw [hok]
      have hrng : 1 ≤ x0 ∧ x0 ≤ 20 := by
        have := hok
        unfold jobB at this
        simp only [Bool.and_eq_true, inB_iff] at this
        exact this.1
      have hthere : ∀ p ∈ l, p.i ≠ x0 := jobAtV_there HU.out
      have HF := Lib.hid (addR_yes HPA.out hyes)
      have HT := Lib.hid (addTo_all (x := ⟨x0, x1, x2, x3, x4⟩) HPA.out hrng hthere)
      have hf' : (x4 == 0) = true := by simpa using hf
      have hn8 : ¬ (8 : Int) ≤ (n : Int) := by have := HL.out; omega
      have HX4 := Lib.hid hf
      have hfn : (x4 != 0) = false := by simp [hf]
      clear hyes hok hrng hthere hlt8 hf
      go_wp2
      go_loopw [8, 9] (fun o i wr => ∃ (k : Nat) (A0 : Option Addr) (n0 c0 : Nat) (zs : List Int), k ≤ 20 ∧ n0 ≤ k ∧ i = .int .i64 ((k : Int) + 1) ∧ o = .slice A0 n0 c0 ∧ Row wr w4.heap.size 68 5 A0 n0 c0 zs ∧ Hid (zs = JB (addTo l ⟨x0, x1, x2, x3, x4⟩ k)) ∧ Below w4.heap.size w4 wr) (fun _ i _ => 21 - (intOf i).toNat)
      case atStart => exact ⟨0, _, _, _, _, by omega, Nat.le_refl _, by simp, rfl, row0p (Blk.new w4 _ _) (Nat.le_refl _), Lib.hid rfl, (Below.refl _ _).alloc (Nat.le_refl _) _⟩
      case round =>
        obtain ⟨k, A0, n0, c0, zs, hk, hn0, rfl, rfl, R, hz, hbl⟩ := hrel
        have fr := bthen f4 hbl
        by_cases hlt : k < 20
        · have hlt' : (k : Int) + 1 ≤ 20 := by omega
          obtain ⟨⟨⟨z0, z1, z2, z3, z4⟩, v⟩, hvz⟩ : ∃ v, jobAtV l ((k : Int) + 1) = v := ⟨_, rfl⟩
          have c5 := specJobAt_any A n cap l ((k : Int) + 1) wr (HS.out.below fr) HL.out hn
          rw [HJR.out, hvz] at c5
          have HVZ := Lib.hid hvz
          clear hvz
          go_wp2_with fail
          refine c5.mono ?_
          rintro e w5 ⟨rfl, b5⟩
          have R5 := R.below b5
          have hbl5 := bthen hbl b5
          have K5 := HK4.out.below hbl5
          have hs5 := hbl5.size
          have lt5 := K5.lt
          clear q0 q1 q2 q3 q4 b5 c5 R fr hbl
          obtain ⟨q0, q1, q2, q3, q4⟩ := boxed5 K5
          clear K5
          by_cases hkk : (k : Int) + 1 = x0
          · have HE := Lib.hid (show JB (addTo l ⟨x0, x1, x2, x3, x4⟩ (k + 1)) = JB (addTo l ⟨x0, x1, x2, x3, x4⟩ k) ++ [x0, x1, x2, x3, x4] by rw [addTo_succ, JB_append]; congr 1; unfold addG; rw [if_pos hkk]; rfl)
            have hkk' : ((k : Int) + 1 == x0) = true := by simpa using hkk
            have hkn : x0 = (k : Int) + 1 := hkk.symm
            clear hkk hkn
            go_wp2_with (at_builtin; refine wpList_append_row rfl _ _ 51 rfl 68 (.agg #[.int .i64 0, .int .i64 0, .int .i64 0, .int .i64 0, .int .i64 0]) 5 40 Try.underlying51 info_Job (by first | kernel_rfl | simp [Value.cells]) (by decide) w4.heap.size A0 n0 c0 zs rfl (World.ownsRow.alloc (World.ownsRow.alloc R5 _) _) ⟨w5.heap.size + 1, 0, none⟩ 1 1 [x0, x1, x2, x3, x4] rfl rfl (cell_five_at _ _ _ _ _ _ _ _ (by simp)) (by unfold maxLen; omega) (by omega) (by simp; omega) ?_; intro A6 c6 w6 R6 B6)
            refine ⟨⟨k + 1, A6, _, c6, _, by omega, by omega, by go_num, rfl, R6, Lib.hid (by rw [HE.out, hz.out]), ((hbl5.alloc hs5 _).alloc (by simp; omega) _).trans B6⟩, by simp [intOf]; omega⟩
          · have hkk' : ((k : Int) + 1 == x0) = false := by simpa using hkk
            cases v
            · have HE := Lib.hid (show JB (addTo l ⟨x0, x1, x2, x3, x4⟩ (k + 1)) = JB (addTo l ⟨x0, x1, x2, x3, x4⟩ k) by rw [addTo_succ, JB_append]; unfold addG; rw [if_neg hkk, HVZ.out]; simp [JB])
              clear hkk
              go_wp2
              exact ⟨⟨k + 1, A0, n0, c0, zs, by omega, by omega, by go_num, rfl, World.ownsRow.alloc R5 _, Lib.hid (by rw [HE.out, hz.out]), hbl5.alloc hs5 _⟩, by simp [intOf]; omega⟩
            · have HE := Lib.hid (show JB (addTo l ⟨x0, x1, x2, x3, x4⟩ (k + 1)) = JB (addTo l ⟨x0, x1, x2, x3, x4⟩ k) ++ [z0, z1, z2, z3, z4] by rw [addTo_succ, JB_append]; unfold addG; rw [if_neg hkk, HVZ.out]; simp [JB])
              clear hkk
              go_wp2_with (at_builtin; refine wpList_append_row rfl _ _ 51 rfl 68 (.agg #[.int .i64 0, .int .i64 0, .int .i64 0, .int .i64 0, .int .i64 0]) 5 40 Try.underlying51 info_Job (by first | kernel_rfl | simp [Value.cells]) (by decide) w4.heap.size A0 n0 c0 zs rfl (World.ownsRow.alloc (World.ownsRow.alloc R5 _) _) ⟨w5.heap.size + 1, 0, none⟩ 1 1 [z0, z1, z2, z3, z4] rfl rfl (cell_five_at _ _ _ _ _ _ _ _ (by simp)) (by unfold maxLen; omega) (by omega) (by simp; omega) ?_; intro A6 c6 w6 R6 B6)
              refine ⟨⟨k + 1, A6, _, c6, _, by omega, by omega, by go_num, rfl, R6, Lib.hid (by rw [HE.out, hz.out]), ((hbl5.alloc hs5 _).alloc (by simp; omega) _).trans B6⟩, by simp [intOf]; omega⟩
        · obtain rfl : k = 20 := by omega
          go_wp2
          refine bodyPost_ret (v := .tuple #[.slice A0 n0 c0, .bool true]) (by simp [results, Try.results151, go_sem, *]) rfl ?_
          have hzz := hz.out
          rw [HT.out] at hzz
          subst hzz
          refine retJobs HF.out ?_ (R.mono hs4) fr
          have := R.len
          rw [JB_len] at this
          omega
    · have hno : addOk l ⟨x0, x1, x2, x3, x4⟩ = false := by simpa using hyes
      have HF := Lib.hid (addR_no HPA.out hno)
      have hcs : jobB x0 x1 x2 x3 x4 = false ∨ (jobB x0 x1 x2 x3 x4 = true ∧ x4 ≠ 0) ∨ (jobB x0 x1 x2 x3 x4 = true ∧ x4 = 0 ∧ u = true) ∨ (jobB x0 x1 x2 x3 x4 = true ∧ x4 = 0 ∧ u = false ∧ (8 : Int) ≤ (n : Int)) := by
        by_cases h1 : jobB x0 x1 x2 x3 x4 = true
        · by_cases h2 : x4 = 0
          · cases hu : u
            · refine .inr (.inr (.inr ⟨h1, h2, rfl, ?_⟩))
              have h3 := HU.out
              rw [hu] at h3
              unfold addOk jobOkB at hno
              simp only at hno
              rw [h1, h3, decide_eq_true h2] at hno
              simp at hno
              have := HL.out
              omega
            · exact .inr (.inr (.inl ⟨h1, h2, rfl⟩))
          · exact .inr (.inl ⟨h1, h2⟩)
        · exact .inl (by simpa using h1)
      clear hyes hno
      have fin : ∀ w7 A7 c7, RetRow w4 68 5 n (JB l) (.returned (.slice A7 n c7)) w7 → RetJobs w (addR l ⟨x0, x1, x2, x3, x4⟩) (.returned (.tuple #[.slice A7 n c7, .bool false])) w7 := by
        rintro w7 A7 c7 ⟨A8, c8, he, R8, b8⟩
        injection he with he
        injection he with h1 _ h3
        subst h1 h3
        exact retJobs HF.out HL.out.symm (R8.mono hs4) (bthen f4 b8)
      have FIN := Lib.hid fin
      have COPY := Lib.hid (l15Copy_any A n cap l w4 (HS.out.below f4) HL.out (by omega) hA)
      clear fin
      rcases hcs with h1 | ⟨h1, h2⟩ | ⟨h1, h2, rfl⟩ | ⟨h1, h2, rfl, h3⟩
      · rw [h1]
        go_wp2_with fail
        refine COPY.out.mono ?_
        rintro e w7 ⟨A7, c7, rfl, R7, b7⟩
        go_wp2
        exact bodyPost_ret (v := .tuple #[.slice A7 n c7, .bool false]) (by simp [results, Try.results151, go_sem, *]) rfl (FIN.out _ _ _ ⟨A7, c7, rfl, R7, b7⟩)
      · rw [h1]
        have hfn : (x4 != 0) = true := by simpa using h2
        clear h2
        go_wp2_with fail
        refine COPY.out.mono ?_
        rintro e w7 ⟨A7, c7, rfl, R7, b7⟩
        go_wp2
        exact bodyPost_ret (v := .tuple #[.slice A7 n c7, .bool false]) (by simp [results, Try.results151, go_sem, *]) rfl (FIN.out _ _ _ ⟨A7, c7, rfl, R7, b7⟩)
      · rw [h1]
        have hfn : (x4 != 0) = false := by simpa using h2
        clear h2
        go_wp2_with fail
        refine COPY.out.mono ?_
        rintro e w7 ⟨A7, c7, rfl, R7, b7⟩
        go_wp2
        exact bodyPost_ret (v := .tuple #[.slice A7 n c7, .bool false]) (by simp [results, Try.results151, go_sem, *]) rfl (FIN.out _ _ _ ⟨A7, c7, rfl, R7, b7⟩)
      · rw [h1]
        have hfn : (x4 != 0) = false := by simpa using h2
        clear h2
        go_wp2_with fail
        refine COPY.out.mono ?_
        rintro e w7 ⟨A7, c7, rfl, R7, b7⟩
        go_wp2
        exact bodyPost_ret (v := .tuple #[.slice A7 n c7, .bool false]) (by simp [results, Try.results151, go_sem, *]) rfl (FIN.out _ _ _ ⟨A7, c7, rfl, R7, b7⟩)
  · have hpa' : jobsB l = false := by simpa using hpa
    have HF := Lib.hid (show addR l ⟨x0, x1, x2, x3, x4⟩ = ([], false) by unfold addR; rw [if_neg hpa])
    go_enter Try.func151, Try.ntmps151
    go_wp2_with fail
    refine calls_named ?_
    rintro w0 hw0
    have b0 : Below w.heap.size w w0 := by rw [hw0]; (repeat' (first | (with_reducible exact Below.refl _ _) | (with_reducible assumption) | (with_reducible refine Below.alloc ?_ ?_ _) | (with_reducible refine Below.drew ?_) | (with_reducible refine Below.setCell ?_ ?_ _) | (with_reducible refine bstep (by assumption) ?_ ?_) | (with_reducible exact Nat.le_refl _) | omega | (simp [*]; done) | (simp [*]; omega)))
    clear hw0
    have c1 := specJobsOk_any A n cap l w0 (hS.below b0) hl hn
    rw [hpa'] at c1
    refine c1.mono ?_
    rintro e w1 ⟨rfl, b1⟩
    have f1 := bthen b0 b1
    go_wp2
    refine bodyPost_ret (v := .tuple #[.slice (some ⟨w1.heap.size, 0, none⟩) 0 0, .bool false]) (by simp [results, Try.results151, go_sem, *]) rfl ?_
    exact retJobs HF.out rfl (row0p (Blk.new w1 _ _) f1.size) (f1.alloc f1.size _)
theorem addedRS_any (A : Option Addr) (n cap : Nat) (l : List Jb) (x0 x1 x2 x3 x4 : Int) (w : World) (hS : Sl w 5 A n (JB l)) (hl : l.length = n) (hn : n ≤ maxLen) (hA : A = none → n = 0 ∧ cap = 0) :
    Calls Try.prog 151 #[.slice A n cap, .agg #[.int .i64 x0, .int .i64 x1, .int .i64 x2, .int .i64 x3, .int .i64 x4]] w (RetRowB w 68 5 (addR l ⟨x0, x1, x2, x3, x4⟩).1.length (JB (addR l ⟨x0, x1, x2, x3, x4⟩).1) (addR l ⟨x0, x1, x2, x3, x4⟩).2) := specJobAdded_walk A n cap l x0 x1 x2 x3 x4 w hS hl hn hA
theorem addedRI_any (A : Option Addr) (n cap : Nat) (l : List Jb) (x0 x1 x2 x3 x4 : Int) (w : World) (hS : Sl w 5 A n (JB l)) (hl : l.length = n) (hn : n ≤ maxLen) (hA : A = none → n = 0 ∧ cap = 0) :
    Calls Try.prog 49 #[.slice A n cap, .agg #[.int .i64 x0, .int .i64 x1, .int .i64 x2, .int .i64 x3, .int .i64 x4]] w (RetRowB w 68 5 (addR l ⟨x0, x1, x2, x3, x4⟩).1.length (JB (addR l ⟨x0, x1, x2, x3, x4⟩).1) (addR l ⟨x0, x1, x2, x3, x4⟩).2) := jobAdded_walk A n cap l x0 x1 x2 x3 x4 w hS hl hn hA
end Go.Proofs.Ytgpllffiahccjaa
