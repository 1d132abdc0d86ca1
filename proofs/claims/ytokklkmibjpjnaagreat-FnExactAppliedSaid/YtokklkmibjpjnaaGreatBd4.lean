/- Part 4 of what the claim rests on: J11, J9, Lease5, T2, OnceL, EfL, T3. No condition of its own. -/
import Derived.Test.YtokklkmibjpjnaaGreatBd3
import Derived.Deep.DeepCutAuto
import Derived.Deep.RegionHeldLaw
import Derived.Laws.EntriesVeiled
namespace Go.Proofs.YtokklkmibjpjnaaGreat
set_option linter.unusedSimpArgs false
set_option linter.unusedVariables false
attribute [local go_sem] n_lt2 n_lt3 n_lt4 n_le2 n_le3
open Go.RowKit
attribute [local go_sem] Ext.cell Ext.frozen

set_option maxRecDepth 100000 in
set_option maxHeartbeats 4000000 in
theorem specJobAdded_walk (A : Option Addr) (n cap : Nat) (l : List Jb) (x0 x1 x2 x3 x4 : Int) (w : World) (hS : Sl w 5 A n (JB l)) (hl : l.length = n) (hn : n ≤ maxLen) (hA : A = none → n = 0 ∧ cap = 0) :
    Calls Tryz.prog 31 #[.slice A n cap, .agg #[.int .i64 x0, .int .i64 x1, .int .i64 x2, .int .i64 x3, .int .i64 x4]] w (RetJobs w (addR l ⟨x0, x1, x2, x3, x4⟩)) := by
  by_cases hpa : jobsB l = true
  · have h8 : n ≤ 8 := by have := (jobsB_all hpa).1; omega
    have HL := Lib.hid hl
    have HS := Lib.hid hS
    have HPA := Lib.hid hpa
    have hjr : ∀ key, jobAtR l key = jobAtV l key := fun key => by unfold jobAtR; rw [if_pos hpa]
    have HJR := Lib.hid hjr
    obtain ⟨⟨⟨y0, y1, y2, y3, y4⟩, u⟩, hva⟩ : ∃ v, jobAtV l x0 = v := ⟨_, rfl⟩
    have HVA := Lib.hid hva
    have hu : (jobAtV l x0).2 = u := by rw [hva]
    have HU := Lib.hid hu
    clear hpa hl hS hva hu hjr
    go_enter Tryz.func31, Tryz.ntmps31
    go_wp2_with fail
    refine calls_named ?_
    rintro w0 hw0
    have K0 : Blk w0 w.heap.size 71 #[.int .i64 x0, .int .i64 x1, .int .i64 x2, .int .i64 x3, .int .i64 x4] := by rw [hw0]; exact Blk.new _ _ _
    have b0 : Below w.heap.size w w0 := by rw [hw0]; (repeat' (first | (with_reducible exact Below.refl _ _) | (with_reducible assumption) | (with_reducible refine Below.alloc ?_ ?_ _) | (with_reducible refine Below.drew ?_) | (with_reducible refine Below.setCell ?_ ?_ _) | (with_reducible refine bstep (by assumption) ?_ ?_) | (with_reducible exact Nat.le_refl _) | omega | (simp [*]; done) | (simp [*]; omega)))
    clear hw0
    have c1 := specJobsOk_any A n cap l w0 (HS.out.below b0) HL.out hn
    rw [HPA.out] at c1
    refine c1.mono ?_
    rintro e w1 ⟨rfl, b1⟩
    have K1 := K0.below b1
    have f1 := bthen b0 b1
    clear K0 b0 b1 c1
    have c3 := specJobAt_any A n cap l x0 w1 (HS.out.below f1) HL.out hn
    rw [HJR.out, HVA.out] at c3
    have q0 := (boxed5 K1).1
    have lt1 := K1.lt
    go_wp2_with fail
    refine c3.mono ?_
    rintro e w2 ⟨rfl, b2⟩
    have K2 := K1.below b2
    have f2 := bthen f1 b2
    have hs2 := f2.size
    clear q0 lt1 c3 K1 f1 b2
    have lt2 := K2.lt
    obtain ⟨q0, q1, q2, q3, q4⟩ := boxed5 K2
    have HK2 := Lib.hid K2
    clear K2
    go_wp2_with fail
    refine (specJobOk_any _ _ _ _ _ _).mono ?_
    rintro e w4 ⟨rfl, b4⟩
    have K4 := (HK2.out.alloc _).below b4
    have f4 := bstep b4 (f2.alloc hs2 _) (by simp; omega)
    have lt4 := K4.lt
    clear q0 q1 q2 q3 q4 b4 f2 HK2 hs2 lt2
    obtain ⟨q0, q1, q2, q3, q4⟩ := boxed5 K4
    have HK4 := Lib.hid K4
    have hs4 := f4.size
    clear K4
    by_cases hyes : addOk l ⟨x0, x1, x2, x3, x4⟩ = true
    · have hy := hyes
      unfold addOk jobOkB at hy
      simp only [Bool.and_eq_true, decide_eq_true_eq, Bool.not_eq_true'] at hy
      obtain ⟨hok, hf, hu, hlt8⟩ := hy
      rw [HU.out] at hu
      subst hu
      rw [hok]
      have hrng : 1 ≤ x0 ∧ x0 ≤ 20 := by
        have := hok
        unfold jobB at this
        simp only [Bool.and_eq_true, inB_iff] at this
        exact this.1
      have hthere : ∀ p ∈ l, p.i ≠ x0 := jobAtV_there HU.out
      have HF := Lib.hid (addR_yes HPA.out hyes)
      have HT := Lib.hid (addTo_all (x := ⟨x0, x1, x2, x3, x4⟩) HPA.out hrng hthere)
      have hf' : (x4 == 0) = true := by simpa using hf
      have hn8 : ¬ (8 : Int) ≤ (n : Int) := by have := HL.out; omega
      have HX4 := Lib.hid hf
      have hfn : (x4 != 0) = false := by simp [hf]
      clear hyes hok hrng hthere hlt8 hf
      go_wp2
      go_loopw [8, 9] (fun o i wr => ∃ (k : Nat) (A0 : Option Addr) (n0 c0 : Nat) (zs : List Int), k ≤ 20 ∧ n0 ≤ k ∧ i = .int .i64 ((k : Int) + 1) ∧ o = .slice A0 n0 c0 ∧ Row wr w4.heap.size 71 5 A0 n0 c0 zs ∧ Hid (zs = JB (addTo l ⟨x0, x1, x2, x3, x4⟩ k)) ∧ Below w4.heap.size w4 wr) (fun _ i _ => 21 - (intOf i).toNat)
      case atStart => exact ⟨0, _, _, _, _, by omega, Nat.le_refl _, by simp, rfl, row0p (Blk.new w4 _ _) (Nat.le_refl _), Lib.hid rfl, (Below.refl _ _).alloc (Nat.le_refl _) _⟩
      case round =>
        obtain ⟨k, A0, n0, c0, zs, hk, hn0, rfl, rfl, R, hz, hbl⟩ := hrel
        have fr := bthen f4 hbl
        by_cases hlt : k < 20
        · have hlt' : (k : Int) + 1 ≤ 20 := by omega
          obtain ⟨⟨⟨z0, z1, z2, z3, z4⟩, v⟩, hvz⟩ : ∃ v, jobAtV l ((k : Int) + 1) = v := ⟨_, rfl⟩
          have c5 := specJobAt_any A n cap l ((k : Int) + 1) wr (HS.out.below fr) HL.out hn
          rw [HJR.out, hvz] at c5
          have HVZ := Lib.hid hvz
          clear hvz
          go_wp2_with fail
          refine c5.mono ?_
          rintro e w5 ⟨rfl, b5⟩
          have R5 := R.below b5
          have hbl5 := bthen hbl b5
          have K5 := HK4.out.below hbl5
          have hs5 := hbl5.size
          have lt5 := K5.lt
          clear q0 q1 q2 q3 q4 b5 c5 R fr hbl
          obtain ⟨q0, q1, q2, q3, q4⟩ := boxed5 K5
          clear K5
          by_cases hkk : (k : Int) + 1 = x0
          · have HE := Lib.hid (show JB (addTo l ⟨x0, x1, x2, x3, x4⟩ (k + 1)) = JB (addTo l ⟨x0, x1, x2, x3, x4⟩ k) ++ [x0, x1, x2, x3, x4] by rw [addTo_succ, JB_append]; congr 1; unfold addG; rw [if_pos hkk]; rfl)
            have hkk' : ((k : Int) + 1 == x0) = true := by simpa using hkk
            have hkn : x0 = (k : Int) + 1 := hkk.symm
            clear hkk hkn
            go_wp2_with (at_builtin; refine wpList_append_row rfl _ _ 34 rfl 71 (.agg #[.int .i64 0, .int .i64 0, .int .i64 0, .int .i64 0, .int .i64 0]) 5 40 Tryz.underlying34 info_Job (by first | kernel_rfl | simp [Value.cells]) (by decide) w4.heap.size A0 n0 c0 zs rfl (World.ownsRow.alloc (World.ownsRow.alloc R5 _) _) ⟨w5.heap.size + 1, 0, none⟩ 1 1 [x0, x1, x2, x3, x4] rfl rfl (cell_five_at _ _ _ _ _ _ _ _ (by simp)) (by unfold maxLen; omega) (by omega) (by simp; omega) ?_; intro A6 c6 w6 R6 B6)
            refine ⟨⟨k + 1, A6, _, c6, _, by omega, by omega, by go_num, rfl, R6, Lib.hid (by rw [HE.out, hz.out]), ((hbl5.alloc hs5 _).alloc (by simp; omega) _).trans B6⟩, by simp [intOf]; omega⟩
          · have hkk' : ((k : Int) + 1 == x0) = false := by simpa using hkk
            cases v
            · have HE := Lib.hid (show JB (addTo l ⟨x0, x1, x2, x3, x4⟩ (k + 1)) = JB (addTo l ⟨x0, x1, x2, x3, x4⟩ k) by rw [addTo_succ, JB_append]; unfold addG; rw [if_neg hkk, HVZ.out]; simp [JB])
              clear hkk
              go_wp2
              exact ⟨⟨k + 1, A0, n0, c0, zs, by omega, by omega, by go_num, rfl, World.ownsRow.alloc R5 _, Lib.hid (by rw [HE.out, hz.out]), hbl5.alloc hs5 _⟩, by simp [intOf]; omega⟩
            · have HE := Lib.hid (show JB (addTo l ⟨x0, x1, x2, x3, x4⟩ (k + 1)) = JB (addTo l ⟨x0, x1, x2, x3, x4⟩ k) ++ [z0, z1, z2, z3, z4] by rw [addTo_succ, JB_append]; unfold addG; rw [if_neg hkk, HVZ.out]; simp [JB])
              clear hkk
              go_wp2_with (at_builtin; refine wpList_append_row rfl _ _ 34 rfl 71 (.agg #[.int .i64 0, .int .i64 0, .int .i64 0, .int .i64 0, .int .i64 0]) 5 40 Tryz.underlying34 info_Job (by first | kernel_rfl | simp [Value.cells]) (by decide) w4.heap.size A0 n0 c0 zs rfl (World.ownsRow.alloc (World.ownsRow.alloc R5 _) _) ⟨w5.heap.size + 1, 0, none⟩ 1 1 [z0, z1, z2, z3, z4] rfl rfl (cell_five_at _ _ _ _ _ _ _ _ (by simp)) (by unfold maxLen; omega) (by omega) (by simp; omega) ?_; intro A6 c6 w6 R6 B6)
              refine ⟨⟨k + 1, A6, _, c6, _, by omega, by omega, by go_num, rfl, R6, Lib.hid (by rw [HE.out, hz.out]), ((hbl5.alloc hs5 _).alloc (by simp; omega) _).trans B6⟩, by simp [intOf]; omega⟩
        · obtain rfl : k = 20 := by omega
          go_wp2
          refine bodyPost_ret (v := .tuple #[.slice A0 n0 c0, .bool true]) (by simp [results, Tryz.results31, go_sem, *]) rfl ?_
          have hzz := hz.out
          rw [HT.out] at hzz
          subst hzz
          refine retJobs HF.out ?_ (R.mono hs4) fr
          have := R.len
          rw [JB_len] at this
          omega
    · have hno : addOk l ⟨x0, x1, x2, x3, x4⟩ = false := by simpa using hyes
      have HF := Lib.hid (addR_no HPA.out hno)
      have hcs : jobB x0 x1 x2 x3 x4 = false ∨ (jobB x0 x1 x2 x3 x4 = true ∧ x4 ≠ 0) ∨ (jobB x0 x1 x2 x3 x4 = true ∧ x4 = 0 ∧ u = true) ∨ (jobB x0 x1 x2 x3 x4 = true ∧ x4 = 0 ∧ u = false ∧ (8 : Int) ≤ (n : Int)) := by
        by_cases h1 : jobB x0 x1 x2 x3 x4 = true
        · by_cases h2 : x4 = 0
          · cases hu : u
            · refine .inr (.inr (.inr ⟨h1, h2, rfl, ?_⟩))
              have h3 := HU.out
              rw [hu] at h3
              unfold addOk jobOkB at hno
              simp only at hno
              rw [h1, h3, decide_eq_true h2] at hno
              simp at hno
              have := HL.out
              omega
            · exact .inr (.inr (.inl ⟨h1, h2, rfl⟩))
          · exact .inr (.inl ⟨h1, h2⟩)
        · exact .inl (by simpa using h1)
      clear hyes hno
      have fin : ∀ w7 A7 c7, RetRow w4 71 5 n (JB l) (.returned (.slice A7 n c7)) w7 → RetJobs w (addR l ⟨x0, x1, x2, x3, x4⟩) (.returned (.tuple #[.slice A7 n c7, .bool false])) w7 := by
        rintro w7 A7 c7 ⟨A8, c8, he, R8, b8⟩
        injection he with he
        injection he with h1 _ h3
        subst h1 h3
        exact retJobs HF.out HL.out.symm (R8.mono hs4) (bthen f4 b8)
      have FIN := Lib.hid fin
      have COPY := Lib.hid (l15Copy_any A n cap l w4 (HS.out.below f4) HL.out (by omega) hA)
      clear fin
      rcases hcs with h1 | ⟨h1, h2⟩ | ⟨h1, h2, rfl⟩ | ⟨h1, h2, rfl, h3⟩
      · rw [h1]
        go_wp2_with fail
        refine COPY.out.mono ?_
        rintro e w7 ⟨A7, c7, rfl, R7, b7⟩
        go_wp2
        exact bodyPost_ret (v := .tuple #[.slice A7 n c7, .bool false]) (by simp [results, Tryz.results31, go_sem, *]) rfl (FIN.out _ _ _ ⟨A7, c7, rfl, R7, b7⟩)
      · rw [h1]
        have hfn : (x4 != 0) = true := by simpa using h2
        clear h2
        go_wp2_with fail
        refine COPY.out.mono ?_
        rintro e w7 ⟨A7, c7, rfl, R7, b7⟩
        go_wp2
        exact bodyPost_ret (v := .tuple #[.slice A7 n c7, .bool false]) (by simp [results, Tryz.results31, go_sem, *]) rfl (FIN.out _ _ _ ⟨A7, c7, rfl, R7, b7⟩)
      · rw [h1]
        have hfn : (x4 != 0) = false := by simpa using h2
        clear h2
        go_wp2_with fail
        refine COPY.out.mono ?_
        rintro e w7 ⟨A7, c7, rfl, R7, b7⟩
        go_wp2
        exact bodyPost_ret (v := .tuple #[.slice A7 n c7, .bool false]) (by simp [results, Tryz.results31, go_sem, *]) rfl (FIN.out _ _ _ ⟨A7, c7, rfl, R7, b7⟩)
      · rw [h1]
        have hfn : (x4 != 0) = false := by simpa using h2
        clear h2
        go_wp2_with fail
        refine COPY.out.mono ?_
        rintro e w7 ⟨A7, c7, rfl, R7, b7⟩
        go_wp2
        exact bodyPost_ret (v := .tuple #[.slice A7 n c7, .bool false]) (by simp [results, Tryz.results31, go_sem, *]) rfl (FIN.out _ _ _ ⟨A7, c7, rfl, R7, b7⟩)
  · have hpa' : jobsB l = false := by simpa using hpa
    have HF := Lib.hid (show addR l ⟨x0, x1, x2, x3, x4⟩ = ([], false) by unfold addR; rw [if_neg hpa])
    go_enter Tryz.func31, Tryz.ntmps31
    go_wp2_with fail
    refine calls_named ?_
    rintro w0 hw0
    have b0 : Below w.heap.size w w0 := by rw [hw0]; (repeat' (first | (with_reducible exact Below.refl _ _) | (with_reducible assumption) | (with_reducible refine Below.alloc ?_ ?_ _) | (with_reducible refine Below.drew ?_) | (with_reducible refine Below.setCell ?_ ?_ _) | (with_reducible refine bstep (by assumption) ?_ ?_) | (with_reducible exact Nat.le_refl _) | omega | (simp [*]; done) | (simp [*]; omega)))
    clear hw0
    have c1 := specJobsOk_any A n cap l w0 (hS.below b0) hl hn
    rw [hpa'] at c1
    refine c1.mono ?_
    rintro e w1 ⟨rfl, b1⟩
    have f1 := bthen b0 b1
    go_wp2
    refine bodyPost_ret (v := .tuple #[.slice (some ⟨w1.heap.size, 0, none⟩) 0 0, .bool false]) (by simp [results, Tryz.results31, go_sem, *]) rfl ?_
    exact retJobs HF.out rfl (row0p (Blk.new w1 _ _) f1.size) (f1.alloc f1.size _)
theorem addedRS_any (A : Option Addr) (n cap : Nat) (l : List Jb) (x0 x1 x2 x3 x4 : Int) (w : World) (hS : Sl w 5 A n (JB l)) (hl : l.length = n) (hn : n ≤ maxLen) (hA : A = none → n = 0 ∧ cap = 0) :
    Calls Tryz.prog 31 #[.slice A n cap, .agg #[.int .i64 x0, .int .i64 x1, .int .i64 x2, .int .i64 x3, .int .i64 x4]] w (RetRowB w 71 5 (addR l ⟨x0, x1, x2, x3, x4⟩).1.length (JB (addR l ⟨x0, x1, x2, x3, x4⟩).1) (addR l ⟨x0, x1, x2, x3, x4⟩).2) := specJobAdded_walk A n cap l x0 x1 x2 x3 x4 w hS hl hn hA
theorem addedRI_any (A : Option Addr) (n cap : Nat) (l : List Jb) (x0 x1 x2 x3 x4 : Int) (w : World) (hS : Sl w 5 A n (JB l)) (hl : l.length = n) (hn : n ≤ maxLen) (hA : A = none → n = 0 ∧ cap = 0) :
    Calls Tryz.prog 102 #[.slice A n cap, .agg #[.int .i64 x0, .int .i64 x1, .int .i64 x2, .int .i64 x3, .int .i64 x4]] w (RetRowB w 71 5 (addR l ⟨x0, x1, x2, x3, x4⟩).1.length (JB (addR l ⟨x0, x1, x2, x3, x4⟩).1) (addR l ⟨x0, x1, x2, x3, x4⟩).2) := jobAdded_walk A n cap l x0 x1 x2 x3 x4 w hS hl hn hA
end Go.Proofs.YtokklkmibjpjnaaGreat
namespace Go.Proofs.YtokklkmibjpjnaaGreat
set_option linter.unusedSimpArgs false
set_option linter.unusedVariables false
attribute [local go_sem] n_lt2 n_lt3 n_lt4 n_le2 n_le3
open Go.RowKit
attribute [local go_sem] Ext.cell Ext.frozen

/-- The reference's two running values. -/
def idxTo (l : List Jb) (x : Int) (k : Nat) : Int := if firedBefore l k x = true then 0 else x
def atTo (l : List Jb) (id : Int) (k : Nat) : Int := if jobIx l id < k ∧ jobIx l id < l.length ∧ (l.getD (jobIx l id) default).f = 0 then (jobIx l id : Int) else -1
theorem idxTo_hit {l : List Jb} {x : Int} {k : Nat} (h : (l.getD k default).f = idxTo l x k) : idxTo l x (k + 1) = 0 := by
  unfold idxTo at h ⊢
  rw [firedBefore_succ]
  by_cases hb : firedBefore l k x = true
  · rw [hb]; rfl
  · have hb' : firedBefore l k x = false := by simpa using hb
    rw [if_neg hb] at h
    rw [hb', decide_eq_true h]
    rfl
theorem idxTo_miss {l : List Jb} {x : Int} {k : Nat} (h : ¬ (l.getD k default).f = idxTo l x k) : idxTo l x (k + 1) = idxTo l x k := by
  unfold idxTo at h ⊢
  rw [firedBefore_succ]
  by_cases hb : firedBefore l k x = true
  · rw [hb]; rfl
  · have hb' : firedBefore l k x = false := by simpa using hb
    rw [if_neg hb] at h
    rw [hb', decide_eq_false h]
    rfl
theorem atTo_hit {l : List Jb} {id : Int} {k : Nat} (hb : jobsB l = true) (hk : k < l.length) (h1 : (l.getD k default).i = id) (h2 : (l.getD k default).f = 0) : atTo l id (k + 1) = k := by
  unfold atTo
  rw [jobIx_at hb hk h1, if_pos ⟨by omega, hk, h2⟩]
theorem atTo_miss {l : List Jb} {id : Int} {k : Nat} (hk : k < l.length) (h : ¬ ((l.getD k default).i = id ∧ (l.getD k default).f = 0)) : atTo l id (k + 1) = atTo l id k := by
  unfold atTo
  by_cases hx : jobIx l id = k
  · rw [hx, if_neg (fun h' => h ⟨by rw [← hx]; exact jobIx_hit (by omega), h'.2.2⟩), if_neg (fun h' => by omega)]
  · by_cases h1 : jobIx l id < k ∧ jobIx l id < l.length ∧ (l.getD (jobIx l id) default).f = 0
    · rw [if_pos h1, if_pos ⟨by omega, h1.2⟩]
    · rw [if_neg h1, if_neg (fun h' => h1 ⟨by omega, h'.2⟩)]
set_option maxRecDepth 100000 in
set_option maxHeartbeats 4000000 in
theorem specJobFired_walk (A : Option Addr) (n cap : Nat) (l : List Jb) (id x : Int) (w : World) (hS : Sl w 5 A n (JB l)) (hl : l.length = n) (hn : n ≤ maxLen) (hA : A = none → n = 0 ∧ cap = 0) :
    Calls Tryz.prog 34 #[.slice A n cap, .int .i64 id, .int .i64 x] w (RetJobs w (firedR l id x)) := by
  have c1 := specJobsOk_any A n cap l w hS hl hn
  by_cases hpa : jobsB l = true
  · have h8 : n ≤ 8 := by have := (jobsB_all hpa).1; omega
    rw [hpa] at c1
    have HL := Lib.hid hl
    have HS := Lib.hid hS
    have HPA := Lib.hid hpa
    clear hpa hl hS
    go_enter Tryz.func34, Tryz.ntmps34
    go_wp2_with fail
    refine c1.mono ?_
    rintro e w1 ⟨rfl, b1⟩
    go_wp2_with fail
    refine (l15Copy_any A n cap l w1 (HS.out.below b1) HL.out (by omega) hA).mono ?_
    rintro e w2 ⟨A2, cap2, rfl, R2, b2⟩
    have f2 := bthen b1 b2
    have R2 := R2.mono b1.size
    have S2 := Lib.hid (HS.out.below f2)
    clear b1 b2 c1
    go_wp2
    go_loop [2, 9, 10] (fun xi ai i => ∃ k : Nat, k ≤ n ∧ i = .int .i64 (k : Nat) ∧ xi = .int .i64 (idxTo l x k) ∧ ai = .int .i64 (atTo l id k)) (fun _ _ i => n - (intOf i).toNat)
    case atStart => exact ⟨0, Nat.zero_le _, rfl, by simp [idxTo, firedBefore], by simp [atTo]⟩
    case round =>
      obtain ⟨k, hk, rfl, rfl, rfl⟩ := hrel
      by_cases hlt : k < n
      · obtain ⟨b, off, rfl, hb, hcell⟩ := sl_jobs S2.out (by omega)
        obtain ⟨h0, _, _, _, h4⟩ := hcell k hlt
        clear hcell
        have hlt' : (k : Int) < (n : Int) := by omega
        have hkl : k < l.length := by have := HL.out; omega
        have e1 := Lib.hid (@idxTo_hit l x k)
        have e2 := Lib.hid (@idxTo_miss l x k)
        have e3 := Lib.hid (@atTo_hit l id k HPA.out hkl)
        have e4 := Lib.hid (@atTo_miss l id k hkl)
        generalize hp : l.getD k default = p at h0 h4
        obtain ⟨y0, y1, y2, y3, y4⟩ := p
        simp only at h0 h4
        generalize hc : idxTo l x k = c
        generalize ha : atTo l id k = a
        have HP := Lib.hid (And.intro hp (And.intro hc ha))
        clear hp hc ha hkl
        by_cases hf : y4 = c
        · have hx := Lib.hid (e1.out (by rw [HP.out.1, HP.out.2.1]; exact hf))
          by_cases hi : y0 = id
          · by_cases hz : y4 = 0
            · have hat := Lib.hid (e3.out (by rw [HP.out.1]; exact hi) (by rw [HP.out.1]; exact hz))
              have hf' : (y4 == c) = true := by simpa using hf
              have hi' : (y0 == id) = true := by simpa using hi
              have hz' : (y4 == 0) = true := by simpa using hz
              clear hf hi hz
              go_wp2
              exact ⟨⟨k + 1, by omega, by go_num, by rw [hx.out], by rw [hat.out]⟩, by simp [intOf]; omega⟩
            · have hat := Lib.hid (e4.out (by rw [HP.out.1]; exact fun h => hz h.2))
              have hf' : (y4 == c) = true := by simpa using hf
              have hi' : (y0 == id) = true := by simpa using hi
              have hz' : (y4 == 0) = false := by simpa using hz
              clear hf hi hz
              go_wp2
              exact ⟨⟨k + 1, by omega, by go_num, by rw [hx.out], by rw [hat.out, HP.out.2.2]⟩, by simp [intOf]; omega⟩
          · have hat := Lib.hid (e4.out (by rw [HP.out.1]; exact fun h => hi h.1))
            have hf' : (y4 == c) = true := by simpa using hf
            have hi' : (y0 == id) = false := by simpa using hi
            clear hf hi
            go_wp2
            exact ⟨⟨k + 1, by omega, by go_num, by rw [hx.out], by rw [hat.out, HP.out.2.2]⟩, by simp [intOf]; omega⟩
        · have hx := Lib.hid (e2.out (by rw [HP.out.1, HP.out.2.1]; exact hf))
          by_cases hi : y0 = id
          · by_cases hz : y4 = 0
            · have hat := Lib.hid (e3.out (by rw [HP.out.1]; exact hi) (by rw [HP.out.1]; exact hz))
              have hf' : (y4 == c) = false := by simpa using hf
              have hi' : (y0 == id) = true := by simpa using hi
              have hz' : (y4 == 0) = true := by simpa using hz
              clear hf hi hz
              go_wp2
              exact ⟨⟨k + 1, by omega, by go_num, by rw [hx.out, HP.out.2.1], by rw [hat.out]⟩, by simp [intOf]; omega⟩
            · have hat := Lib.hid (e4.out (by rw [HP.out.1]; exact fun h => hz h.2))
              have hf' : (y4 == c) = false := by simpa using hf
              have hi' : (y0 == id) = true := by simpa using hi
              have hz' : (y4 == 0) = false := by simpa using hz
              clear hf hi hz
              go_wp2
              exact ⟨⟨k + 1, by omega, by go_num, by rw [hx.out, HP.out.2.1], by rw [hat.out, HP.out.2.2]⟩, by simp [intOf]; omega⟩
          · have hat := Lib.hid (e4.out (by rw [HP.out.1]; exact fun h => hi h.1))
            have hf' : (y4 == c) = false := by simpa using hf
            have hi' : (y0 == id) = false := by simpa using hi
            clear hf hi
            go_wp2
            exact ⟨⟨k + 1, by omega, by go_num, by rw [hx.out, HP.out.2.1], by rw [hat.out, HP.out.2.2]⟩, by simp [intOf]; omega⟩
      · obtain rfl : k = n := by omega
        by_cases hat : jobIx l id < l.length ∧ (l.getD (jobIx l id) default).f = 0
        · obtain ⟨m, hm⟩ : ∃ m, m = jobIx l id := ⟨_, rfl⟩
          have ea : atTo l id k = (m : Int) := by unfold atTo; rw [if_pos ⟨by have := HL.out; omega, hat⟩, hm]
          have hmk : m < k := by have := HL.out; omega
          rw [ea]
          by_cases hin : inB (idxTo l x k) 1 2000 = true
          · have hfb : firedBefore l l.length x = false := by
              rw [← Bool.not_eq_true]
              intro h
              unfold idxTo at hin
              rw [← HL.out, if_pos h] at hin
              exact absurd hin (by decide)
            have ei : idxTo l x k = x := by unfold idxTo; rw [← HL.out, hfb]; rfl
            rw [ei] at hin ⊢
            have HF := Lib.hid (show firedR l id x = (firedSet l m x, true) by
              unfold firedR
              rw [if_pos HPA.out, if_pos, hm]
              unfold firedOk
              rw [hfb, hin, decide_eq_true hat.1, decide_eq_true hat.2]
              rfl)
            obtain ⟨g, cs, rfl, hlg, K, hcs, hj, _⟩ := R2.cells5 HL.out (by omega)
            have hcp := R2.cap_le
            have hcm : cap2 ≤ 9223372036854775807 := by have := hcp.2; unfold maxLen at this; omega
            have hmk' : (m : Int) < (k : Int) := by omega
            obtain ⟨c, hc5⟩ : ∃ c, w2.cell? ⟨g, m * 5 + 4, none⟩ = some c := K.has (by have := hcp.1; omega)
            have hfz := K.frozen (m * 5 + 4)
            have HK := Lib.hid (And.intro K (And.intro hcs (And.intro hj hcp)))
            clear K hcs hj hcp hat ei hfb ea hm
            go_wp2_with ((go_at_call 60; refine (l1In_any _ _ _ _).mono ?_; rintro e w' ⟨rfl, rfl⟩))
            refine bodyPost_ret (v := .tuple #[.slice (some ⟨g, 0, none⟩) k cap2, .bool true]) (by simp [results, Tryz.results34, go_sem, *]) rfl ?_
            exact retJobs HF.out (by simp [firedSet, HL.out]) (firedSet_row HK.out.1 hlg HK.out.2.2.2.1 HK.out.2.2.2.2 HK.out.2.1 HL.out HK.out.2.2.1 hmk) (f2.setCell hlg _)
          · have hin' : inB (idxTo l x k) 1 2000 = false := by simpa using hin
            have HF := Lib.hid (show firedR l id x = (l, false) by
              unfold firedR
              rw [if_pos HPA.out, if_neg]
              unfold firedOk
              intro h
              simp only [Bool.and_eq_true, decide_eq_true_eq, Bool.not_eq_true'] at h
              refine hin ?_
              unfold idxTo
              rw [← HL.out, h.2.2.2]
              exact h.2.2.1)
            generalize idxTo l x k = c at hin'
            clear hin hat ea hm
            go_wp2_with ((go_at_call 60; refine (l1In_any _ _ _ _).mono ?_; rintro e w' ⟨rfl, rfl⟩))
            refine bodyPost_ret (v := .tuple #[.slice A2 k cap2, .bool false]) (by simp [results, Tryz.results34, go_sem, *]) rfl ?_
            exact retJobs HF.out HL.out.symm R2 f2
        · have ea : atTo l id k = -1 := by unfold atTo; rw [if_neg (fun h => hat h.2)]
          rw [ea]
          have HF := Lib.hid (show firedR l id x = (l, false) by
            unfold firedR
            rw [if_pos HPA.out, if_neg]
            unfold firedOk
            intro h
            simp only [Bool.and_eq_true, decide_eq_true_eq] at h
            exact hat ⟨h.1, h.2.1⟩)
          generalize idxTo l x k = c
          clear hat ea
          go_wp2
          refine bodyPost_ret (v := .tuple #[.slice A2 k cap2, .bool false]) (by simp [results, Tryz.results34, go_sem, *]) rfl ?_
          exact retJobs HF.out HL.out.symm R2 f2
  · have hpa' : jobsB l = false := by simpa using hpa
    have HF := Lib.hid (show firedR l id x = ([], false) by unfold firedR; rw [if_neg hpa])
    rw [hpa'] at c1
    go_enter Tryz.func34, Tryz.ntmps34
    go_wp2_with fail
    refine c1.mono ?_
    rintro e w1 ⟨rfl, b1⟩
    go_wp2
    refine bodyPost_ret (v := .tuple #[.slice (some ⟨w1.heap.size, 0, none⟩) 0 0, .bool false]) (by simp [results, Tryz.results34, go_sem, *]) rfl ?_
    exact retJobs HF.out rfl (row0p (Blk.new w1 _ _) b1.size) (b1.alloc b1.size _)
theorem firedRS_any (A : Option Addr) (n cap : Nat) (l : List Jb) (id x : Int) (w : World) (hS : Sl w 5 A n (JB l)) (hl : l.length = n) (hn : n ≤ maxLen) (hA : A = none → n = 0 ∧ cap = 0) :
    Calls Tryz.prog 34 #[.slice A n cap, .int .i64 id, .int .i64 x] w (RetRowB w 71 5 (firedR l id x).1.length (JB (firedR l id x).1) (firedR l id x).2) := specJobFired_walk A n cap l id x w hS hl hn hA
theorem firedRI_any (A : Option Addr) (n cap : Nat) (l : List Jb) (id x : Int) (w : World) (hS : Sl w 5 A n (JB l)) (hl : l.length = n) (hn : n ≤ maxLen) (hA : A = none → n = 0 ∧ cap = 0) :
    Calls Tryz.prog 106 #[.slice A n cap, .int .i64 id, .int .i64 x] w (RetRowB w 71 5 (firedR l id x).1.length (JB (firedR l id x).1) (firedR l id x).2) := jobFired_walk A n cap l id x w hS hl hn hA
end Go.Proofs.YtokklkmibjpjnaaGreat
namespace Go.Proofs.YtokklkmibjpjnaaGreat
set_option linter.unusedSimpArgs false
set_option linter.unusedVariables false
attribute [local go_sem] n_lt2 n_lt3 n_lt4 n_le2 n_le3
open Go.RowKit
attribute [local go_sem] Ext.cell Ext.frozen

theorem max_any (a b : Int) (w : World) : Calls Tryz.prog 70 #[.int .i64 a, .int .i64 b] w fun e w' => e = .returned (.int .i64 (max a b)) ∧ w = w' := by
  by_cases h : b < a
  · have hm : max a b = a := by omega
    rw [hm]; clear hm
    go_enter Tryz.func70, Tryz.ntmps70
    go_wp2
    go_ret
    exact ⟨rfl, rfl⟩
  · have hm : max a b = b := by omega
    rw [hm]; clear hm
    go_enter Tryz.func70, Tryz.ntmps70
    go_wp2
    go_ret
    exact ⟨rfl, rfl⟩

/-- What Granted hands back. -/
def RetGrant (w : World) (g : (Int × Int × Int) × Bool) (e : Ending) (w' : World) : Prop := e = .returned (.tuple #[.agg #[.int .i64 g.1.1, .int .i64 g.1.2.1, .int .i64 g.1.2.2], .bool g.2]) ∧ Below w.heap.size w w'

theorem lease_e {h e u : Int} (hl : leaseB h e u = true) : 0 ≤ e ∧ e ≤ 1000 ∧ 0 ≤ u ∧ u ≤ 1001000 := by
  unfold leaseB at hl
  simp only [Bool.or_eq_true, Bool.and_eq_true, decide_eq_true_eq, inB_iff] at hl
  omega

set_option maxHeartbeats 2000000 in
theorem specGranted_any (a e u who t long : Int) (w : World) :
    Calls Tryz.prog 35 #[.agg #[.int .i64 a, .int .i64 e, .int .i64 u], .int .i64 who, .int .i64 t, .int .i64 long] w (RetGrant w (grantL a e u who t long)) := by
  by_cases h1 : leaseB a e u = true
  · obtain ⟨b5, b6, b7, b8⟩ := lease_e h1
    by_cases h2 : (whoB who && (inB t 0 1000000 && inB long 1 1000)) = true
    · have h2' := h2
      simp only [Bool.and_eq_true] at h2'
      obtain ⟨e1, e2, e3⟩ := h2'
      obtain ⟨b1, b2⟩ := (inB_iff _ _ _).1 e2
      obtain ⟨b3, b4⟩ := (inB_iff _ _ _).1 e3
      by_cases h3 : a = who
      · have hv : grantL a e u who t long = ((a, e, max u (t + long)), true) := by unfold grantL; rw [if_pos h1, if_pos h2, if_pos h3]
        rw [hv]
        subst h3
        clear hv h2
        go_enter Tryz.func35, Tryz.ntmps35
        go_wp2_with (first | (go_at_call 64; refine (specLeaseOk_any _ _ _ _).mono ?_; rintro e w1 ⟨rfl, hb'⟩; (first | (have hb2 := bstep hb' hb hb.size; clear hb' hcb hfb hz1 hz2 hz3 hz4 hb; have hb := hb2; clear hb2) | (have hb := hb'; clear hb')); obtain ⟨hcb, hfb, hz1, hz2, hz3, hz4⟩ := bcell hb; (try simp only [World.size_alloc, World.size_setCell, World.size_drew, Nat.lt_add_one_iff, Nat.add_assoc, Nat.reduceAdd] at hz1 hz2 hz3 hz4); (have q0x0 := hcb w.heap.size 0 (by simp <;> omega)); (simp [go_sem] at q0x0); (have q0x1 := hcb w.heap.size 1 (by simp <;> omega)); (simp [go_sem] at q0x1); (have q0x2 := hcb w.heap.size 2 (by simp <;> omega)); (simp [go_sem] at q0x2); (have q1x0 := hcb (w.heap.size + 1) 0 (by simp <;> omega)); (simp [go_sem] at q1x0); (have q1x1 := hcb (w.heap.size + 1) 1 (by simp <;> omega)); (simp [go_sem] at q1x1); (have q1x2 := hcb (w.heap.size + 1) 2 (by simp <;> omega)); (simp [go_sem] at q1x2)) | (go_at_call 71; refine (specFreeAt_any _ _ _ _ _).mono ?_; rintro e w1 ⟨rfl, hb'⟩; (first | (have hb2 := bstep hb' hb hb.size; clear hb' hcb hfb hz1 hz2 hz3 hz4 hb; have hb := hb2; clear hb2) | (have hb := hb'; clear hb')); obtain ⟨hcb, hfb, hz1, hz2, hz3, hz4⟩ := bcell hb; (try simp only [World.size_alloc, World.size_setCell, World.size_drew, Nat.lt_add_one_iff, Nat.add_assoc, Nat.reduceAdd] at hz1 hz2 hz3 hz4); (have q0x0 := hcb w.heap.size 0 (by simp <;> omega)); (simp [go_sem] at q0x0); (have q0x1 := hcb w.heap.size 1 (by simp <;> omega)); (simp [go_sem] at q0x1); (have q0x2 := hcb w.heap.size 2 (by simp <;> omega)); (simp [go_sem] at q0x2); (have q1x0 := hcb (w.heap.size + 1) 0 (by simp <;> omega)); (simp [go_sem] at q1x0); (have q1x1 := hcb (w.heap.size + 1) 1 (by simp <;> omega)); (simp [go_sem] at q1x1); (have q1x2 := hcb (w.heap.size + 1) 2 (by simp <;> omega)); (simp [go_sem] at q1x2)) | (go_at_call 69; refine (l16Who_any _ _).mono ?_; rintro e w' ⟨rfl, rfl⟩) | (go_at_call 61; refine (l16Time_any _ _).mono ?_; rintro e w' ⟨rfl, rfl⟩) | (go_at_call 60; refine (l1In_any _ _ _ _).mono ?_; rintro e w' ⟨rfl, rfl⟩) | (go_at_call 70; refine (max_any _ _ _).mono ?_; rintro e w' ⟨rfl, rfl⟩))
        all_goals refine bodyPost_ret (v := .tuple #[.agg #[.int .i64 (a), .int .i64 (e), .int .i64 (max u (t + long))], .bool true]) (by simp [results, Tryz.results35, go_sem, *] <;> omega) rfl ⟨rfl, by (repeat' (first | (with_reducible exact Below.refl _ _) | (with_reducible assumption) | (with_reducible refine Below.alloc ?_ ?_ _) | (with_reducible refine Below.drew ?_) | (with_reducible refine Below.setCell ?_ ?_ _) | (with_reducible refine bstep (by assumption) ?_ ?_) | (with_reducible exact Nat.le_refl _) | omega | (simp [*]; done) | (simp [*]; omega)))⟩
      · have h3' : (a == who) = false := by simpa using h3
        by_cases h4 : (freeB a u t && decide (e < 1000)) = true
        · have hv : grantL a e u who t long = ((who, e + 1, t + long), true) := by unfold grantL; rw [if_pos h1, if_pos h2, if_neg h3, if_pos h4]
          rw [hv]
          simp only [Bool.and_eq_true, decide_eq_true_eq] at h4
          obtain ⟨h4, h5⟩ := h4
          have h6 : freeAtB a e u t = true := by unfold freeAtB; simp [*]
          clear hv h2 h3
          go_enter Tryz.func35, Tryz.ntmps35
          go_wp2_with (first | (go_at_call 64; refine (specLeaseOk_any _ _ _ _).mono ?_; rintro e w1 ⟨rfl, hb'⟩; (first | (have hb2 := bstep hb' hb hb.size; clear hb' hcb hfb hz1 hz2 hz3 hz4 hb; have hb := hb2; clear hb2) | (have hb := hb'; clear hb')); obtain ⟨hcb, hfb, hz1, hz2, hz3, hz4⟩ := bcell hb; (try simp only [World.size_alloc, World.size_setCell, World.size_drew, Nat.lt_add_one_iff, Nat.add_assoc, Nat.reduceAdd] at hz1 hz2 hz3 hz4); (have q0x0 := hcb w.heap.size 0 (by simp <;> omega)); (simp [go_sem] at q0x0); (have q0x1 := hcb w.heap.size 1 (by simp <;> omega)); (simp [go_sem] at q0x1); (have q0x2 := hcb w.heap.size 2 (by simp <;> omega)); (simp [go_sem] at q0x2); (have q1x0 := hcb (w.heap.size + 1) 0 (by simp <;> omega)); (simp [go_sem] at q1x0); (have q1x1 := hcb (w.heap.size + 1) 1 (by simp <;> omega)); (simp [go_sem] at q1x1); (have q1x2 := hcb (w.heap.size + 1) 2 (by simp <;> omega)); (simp [go_sem] at q1x2)) | (go_at_call 71; refine (specFreeAt_any _ _ _ _ _).mono ?_; rintro e w1 ⟨rfl, hb'⟩; (first | (have hb2 := bstep hb' hb hb.size; clear hb' hcb hfb hz1 hz2 hz3 hz4 hb; have hb := hb2; clear hb2) | (have hb := hb'; clear hb')); obtain ⟨hcb, hfb, hz1, hz2, hz3, hz4⟩ := bcell hb; (try simp only [World.size_alloc, World.size_setCell, World.size_drew, Nat.lt_add_one_iff, Nat.add_assoc, Nat.reduceAdd] at hz1 hz2 hz3 hz4); (have q0x0 := hcb w.heap.size 0 (by simp <;> omega)); (simp [go_sem] at q0x0); (have q0x1 := hcb w.heap.size 1 (by simp <;> omega)); (simp [go_sem] at q0x1); (have q0x2 := hcb w.heap.size 2 (by simp <;> omega)); (simp [go_sem] at q0x2); (have q1x0 := hcb (w.heap.size + 1) 0 (by simp <;> omega)); (simp [go_sem] at q1x0); (have q1x1 := hcb (w.heap.size + 1) 1 (by simp <;> omega)); (simp [go_sem] at q1x1); (have q1x2 := hcb (w.heap.size + 1) 2 (by simp <;> omega)); (simp [go_sem] at q1x2)) | (go_at_call 69; refine (l16Who_any _ _).mono ?_; rintro e w' ⟨rfl, rfl⟩) | (go_at_call 61; refine (l16Time_any _ _).mono ?_; rintro e w' ⟨rfl, rfl⟩) | (go_at_call 60; refine (l1In_any _ _ _ _).mono ?_; rintro e w' ⟨rfl, rfl⟩) | (go_at_call 70; refine (max_any _ _ _).mono ?_; rintro e w' ⟨rfl, rfl⟩))
          all_goals refine bodyPost_ret (v := .tuple #[.agg #[.int .i64 (who), .int .i64 (e + 1), .int .i64 (t + long)], .bool true]) (by simp [results, Tryz.results35, go_sem, *] <;> omega) rfl ⟨rfl, by (repeat' (first | (with_reducible exact Below.refl _ _) | (with_reducible assumption) | (with_reducible refine Below.alloc ?_ ?_ _) | (with_reducible refine Below.drew ?_) | (with_reducible refine Below.setCell ?_ ?_ _) | (with_reducible refine bstep (by assumption) ?_ ?_) | (with_reducible exact Nat.le_refl _) | omega | (simp [*]; done) | (simp [*]; omega)))⟩
        · have hv : grantL a e u who t long = ((a, e, u), false) := by unfold grantL; rw [if_pos h1, if_pos h2, if_neg h3, if_neg h4]
          rw [hv]
          clear hv h2 h3
          rcases (show freeB a u t = false ∨ (freeB a u t = true ∧ 1000 ≤ e) by
            cases hf : freeB a u t with
            | false => exact .inl rfl
            | true => rw [hf] at h4; simp at h4; exact .inr ⟨rfl, h4⟩) with h6 | ⟨h6, h7⟩
          · have h8 : freeAtB a e u t = false := by unfold freeAtB; simp [*]
            clear h4
            go_enter Tryz.func35, Tryz.ntmps35
            go_wp2_with (first | (go_at_call 64; refine (specLeaseOk_any _ _ _ _).mono ?_; rintro e w1 ⟨rfl, hb'⟩; (first | (have hb2 := bstep hb' hb hb.size; clear hb' hcb hfb hz1 hz2 hz3 hz4 hb; have hb := hb2; clear hb2) | (have hb := hb'; clear hb')); obtain ⟨hcb, hfb, hz1, hz2, hz3, hz4⟩ := bcell hb; (try simp only [World.size_alloc, World.size_setCell, World.size_drew, Nat.lt_add_one_iff, Nat.add_assoc, Nat.reduceAdd] at hz1 hz2 hz3 hz4); (have q0x0 := hcb w.heap.size 0 (by simp <;> omega)); (simp [go_sem] at q0x0); (have q0x1 := hcb w.heap.size 1 (by simp <;> omega)); (simp [go_sem] at q0x1); (have q0x2 := hcb w.heap.size 2 (by simp <;> omega)); (simp [go_sem] at q0x2); (have q1x0 := hcb (w.heap.size + 1) 0 (by simp <;> omega)); (simp [go_sem] at q1x0); (have q1x1 := hcb (w.heap.size + 1) 1 (by simp <;> omega)); (simp [go_sem] at q1x1); (have q1x2 := hcb (w.heap.size + 1) 2 (by simp <;> omega)); (simp [go_sem] at q1x2)) | (go_at_call 71; refine (specFreeAt_any _ _ _ _ _).mono ?_; rintro e w1 ⟨rfl, hb'⟩; (first | (have hb2 := bstep hb' hb hb.size; clear hb' hcb hfb hz1 hz2 hz3 hz4 hb; have hb := hb2; clear hb2) | (have hb := hb'; clear hb')); obtain ⟨hcb, hfb, hz1, hz2, hz3, hz4⟩ := bcell hb; (try simp only [World.size_alloc, World.size_setCell, World.size_drew, Nat.lt_add_one_iff, Nat.add_assoc, Nat.reduceAdd] at hz1 hz2 hz3 hz4); (have q0x0 := hcb w.heap.size 0 (by simp <;> omega)); (simp [go_sem] at q0x0); (have q0x1 := hcb w.heap.size 1 (by simp <;> omega)); (simp [go_sem] at q0x1); (have q0x2 := hcb w.heap.size 2 (by simp <;> omega)); (simp [go_sem] at q0x2); (have q1x0 := hcb (w.heap.size + 1) 0 (by simp <;> omega)); (simp [go_sem] at q1x0); (have q1x1 := hcb (w.heap.size + 1) 1 (by simp <;> omega)); (simp [go_sem] at q1x1); (have q1x2 := hcb (w.heap.size + 1) 2 (by simp <;> omega)); (simp [go_sem] at q1x2)) | (go_at_call 69; refine (l16Who_any _ _).mono ?_; rintro e w' ⟨rfl, rfl⟩) | (go_at_call 61; refine (l16Time_any _ _).mono ?_; rintro e w' ⟨rfl, rfl⟩) | (go_at_call 60; refine (l1In_any _ _ _ _).mono ?_; rintro e w' ⟨rfl, rfl⟩) | (go_at_call 70; refine (max_any _ _ _).mono ?_; rintro e w' ⟨rfl, rfl⟩))
            all_goals refine bodyPost_ret (v := .tuple #[.agg #[.int .i64 (a), .int .i64 (e), .int .i64 (u)], .bool false]) (by simp [results, Tryz.results35, go_sem, *] <;> omega) rfl ⟨rfl, by (repeat' (first | (with_reducible exact Below.refl _ _) | (with_reducible assumption) | (with_reducible refine Below.alloc ?_ ?_ _) | (with_reducible refine Below.drew ?_) | (with_reducible refine Below.setCell ?_ ?_ _) | (with_reducible refine bstep (by assumption) ?_ ?_) | (with_reducible exact Nat.le_refl _) | omega | (simp [*]; done) | (simp [*]; omega)))⟩
          · have h8 : freeAtB a e u t = true := by unfold freeAtB; simp [*]
            clear h4
            go_enter Tryz.func35, Tryz.ntmps35
            go_wp2_with (first | (go_at_call 64; refine (specLeaseOk_any _ _ _ _).mono ?_; rintro e w1 ⟨rfl, hb'⟩; (first | (have hb2 := bstep hb' hb hb.size; clear hb' hcb hfb hz1 hz2 hz3 hz4 hb; have hb := hb2; clear hb2) | (have hb := hb'; clear hb')); obtain ⟨hcb, hfb, hz1, hz2, hz3, hz4⟩ := bcell hb; (try simp only [World.size_alloc, World.size_setCell, World.size_drew, Nat.lt_add_one_iff, Nat.add_assoc, Nat.reduceAdd] at hz1 hz2 hz3 hz4); (have q0x0 := hcb w.heap.size 0 (by simp <;> omega)); (simp [go_sem] at q0x0); (have q0x1 := hcb w.heap.size 1 (by simp <;> omega)); (simp [go_sem] at q0x1); (have q0x2 := hcb w.heap.size 2 (by simp <;> omega)); (simp [go_sem] at q0x2); (have q1x0 := hcb (w.heap.size + 1) 0 (by simp <;> omega)); (simp [go_sem] at q1x0); (have q1x1 := hcb (w.heap.size + 1) 1 (by simp <;> omega)); (simp [go_sem] at q1x1); (have q1x2 := hcb (w.heap.size + 1) 2 (by simp <;> omega)); (simp [go_sem] at q1x2)) | (go_at_call 71; refine (specFreeAt_any _ _ _ _ _).mono ?_; rintro e w1 ⟨rfl, hb'⟩; (first | (have hb2 := bstep hb' hb hb.size; clear hb' hcb hfb hz1 hz2 hz3 hz4 hb; have hb := hb2; clear hb2) | (have hb := hb'; clear hb')); obtain ⟨hcb, hfb, hz1, hz2, hz3, hz4⟩ := bcell hb; (try simp only [World.size_alloc, World.size_setCell, World.size_drew, Nat.lt_add_one_iff, Nat.add_assoc, Nat.reduceAdd] at hz1 hz2 hz3 hz4); (have q0x0 := hcb w.heap.size 0 (by simp <;> omega)); (simp [go_sem] at q0x0); (have q0x1 := hcb w.heap.size 1 (by simp <;> omega)); (simp [go_sem] at q0x1); (have q0x2 := hcb w.heap.size 2 (by simp <;> omega)); (simp [go_sem] at q0x2); (have q1x0 := hcb (w.heap.size + 1) 0 (by simp <;> omega)); (simp [go_sem] at q1x0); (have q1x1 := hcb (w.heap.size + 1) 1 (by simp <;> omega)); (simp [go_sem] at q1x1); (have q1x2 := hcb (w.heap.size + 1) 2 (by simp <;> omega)); (simp [go_sem] at q1x2)) | (go_at_call 69; refine (l16Who_any _ _).mono ?_; rintro e w' ⟨rfl, rfl⟩) | (go_at_call 61; refine (l16Time_any _ _).mono ?_; rintro e w' ⟨rfl, rfl⟩) | (go_at_call 60; refine (l1In_any _ _ _ _).mono ?_; rintro e w' ⟨rfl, rfl⟩) | (go_at_call 70; refine (max_any _ _ _).mono ?_; rintro e w' ⟨rfl, rfl⟩))
            all_goals refine bodyPost_ret (v := .tuple #[.agg #[.int .i64 (a), .int .i64 (e), .int .i64 (u)], .bool false]) (by simp [results, Tryz.results35, go_sem, *] <;> omega) rfl ⟨rfl, by (repeat' (first | (with_reducible exact Below.refl _ _) | (with_reducible assumption) | (with_reducible refine Below.alloc ?_ ?_ _) | (with_reducible refine Below.drew ?_) | (with_reducible refine Below.setCell ?_ ?_ _) | (with_reducible refine bstep (by assumption) ?_ ?_) | (with_reducible exact Nat.le_refl _) | omega | (simp [*]; done) | (simp [*]; omega)))⟩
    · have hv : grantL a e u who t long = ((a, e, u), false) := by unfold grantL; rw [if_pos h1, if_neg h2]
      rw [hv]
      clear hv
      rcases (show whoB who = false ∨ (whoB who = true ∧ inB t 0 1000000 = false) ∨ (whoB who = true ∧ inB t 0 1000000 = true ∧ inB long 1 1000 = false) by
        cases hf : whoB who with
        | false => exact .inl rfl
        | true =>
          cases hg : inB t 0 1000000 with
          | false => exact .inr (.inl ⟨rfl, rfl⟩)
          | true => rw [hf, hg] at h2; simp at h2; exact .inr (.inr ⟨rfl, rfl, h2⟩)) with h6 | ⟨h6, h7⟩ | ⟨h6, h7, h8⟩
      all_goals clear h2
      all_goals go_enter Tryz.func35, Tryz.ntmps35
      all_goals go_wp2_with (first | (go_at_call 64; refine (specLeaseOk_any _ _ _ _).mono ?_; rintro e w1 ⟨rfl, hb'⟩; (first | (have hb2 := bstep hb' hb hb.size; clear hb' hcb hfb hz1 hz2 hz3 hz4 hb; have hb := hb2; clear hb2) | (have hb := hb'; clear hb')); obtain ⟨hcb, hfb, hz1, hz2, hz3, hz4⟩ := bcell hb; (try simp only [World.size_alloc, World.size_setCell, World.size_drew, Nat.lt_add_one_iff, Nat.add_assoc, Nat.reduceAdd] at hz1 hz2 hz3 hz4); (have q0x0 := hcb w.heap.size 0 (by simp <;> omega)); (simp [go_sem] at q0x0); (have q0x1 := hcb w.heap.size 1 (by simp <;> omega)); (simp [go_sem] at q0x1); (have q0x2 := hcb w.heap.size 2 (by simp <;> omega)); (simp [go_sem] at q0x2); (have q1x0 := hcb (w.heap.size + 1) 0 (by simp <;> omega)); (simp [go_sem] at q1x0); (have q1x1 := hcb (w.heap.size + 1) 1 (by simp <;> omega)); (simp [go_sem] at q1x1); (have q1x2 := hcb (w.heap.size + 1) 2 (by simp <;> omega)); (simp [go_sem] at q1x2)) | (go_at_call 71; refine (specFreeAt_any _ _ _ _ _).mono ?_; rintro e w1 ⟨rfl, hb'⟩; (first | (have hb2 := bstep hb' hb hb.size; clear hb' hcb hfb hz1 hz2 hz3 hz4 hb; have hb := hb2; clear hb2) | (have hb := hb'; clear hb')); obtain ⟨hcb, hfb, hz1, hz2, hz3, hz4⟩ := bcell hb; (try simp only [World.size_alloc, World.size_setCell, World.size_drew, Nat.lt_add_one_iff, Nat.add_assoc, Nat.reduceAdd] at hz1 hz2 hz3 hz4); (have q0x0 := hcb w.heap.size 0 (by simp <;> omega)); (simp [go_sem] at q0x0); (have q0x1 := hcb w.heap.size 1 (by simp <;> omega)); (simp [go_sem] at q0x1); (have q0x2 := hcb w.heap.size 2 (by simp <;> omega)); (simp [go_sem] at q0x2); (have q1x0 := hcb (w.heap.size + 1) 0 (by simp <;> omega)); (simp [go_sem] at q1x0); (have q1x1 := hcb (w.heap.size + 1) 1 (by simp <;> omega)); (simp [go_sem] at q1x1); (have q1x2 := hcb (w.heap.size + 1) 2 (by simp <;> omega)); (simp [go_sem] at q1x2)) | (go_at_call 69; refine (l16Who_any _ _).mono ?_; rintro e w' ⟨rfl, rfl⟩) | (go_at_call 61; refine (l16Time_any _ _).mono ?_; rintro e w' ⟨rfl, rfl⟩) | (go_at_call 60; refine (l1In_any _ _ _ _).mono ?_; rintro e w' ⟨rfl, rfl⟩) | (go_at_call 70; refine (max_any _ _ _).mono ?_; rintro e w' ⟨rfl, rfl⟩))
      all_goals refine bodyPost_ret (v := .tuple #[.agg #[.int .i64 (a), .int .i64 (e), .int .i64 (u)], .bool false]) (by simp [results, Tryz.results35, go_sem, *] <;> omega) rfl ⟨rfl, by (repeat' (first | (with_reducible exact Below.refl _ _) | (with_reducible assumption) | (with_reducible refine Below.alloc ?_ ?_ _) | (with_reducible refine Below.drew ?_) | (with_reducible refine Below.setCell ?_ ?_ _) | (with_reducible refine bstep (by assumption) ?_ ?_) | (with_reducible exact Nat.le_refl _) | omega | (simp [*]; done) | (simp [*]; omega)))⟩
  · have hv : grantL a e u who t long = ((0, 0, 0), false) := by unfold grantL; rw [if_neg h1]
    rw [hv]
    have h1' : leaseB a e u = false := by simpa using h1
    clear hv h1
    go_enter Tryz.func35, Tryz.ntmps35
    go_wp2_with (first | (go_at_call 64; refine (specLeaseOk_any _ _ _ _).mono ?_; rintro e w1 ⟨rfl, hb'⟩; (first | (have hb2 := bstep hb' hb hb.size; clear hb' hcb hfb hz1 hz2 hz3 hz4 hb; have hb := hb2; clear hb2) | (have hb := hb'; clear hb')); obtain ⟨hcb, hfb, hz1, hz2, hz3, hz4⟩ := bcell hb; (try simp only [World.size_alloc, World.size_setCell, World.size_drew, Nat.lt_add_one_iff, Nat.add_assoc, Nat.reduceAdd] at hz1 hz2 hz3 hz4); (have q0x0 := hcb w.heap.size 0 (by simp <;> omega)); (simp [go_sem] at q0x0); (have q0x1 := hcb w.heap.size 1 (by simp <;> omega)); (simp [go_sem] at q0x1); (have q0x2 := hcb w.heap.size 2 (by simp <;> omega)); (simp [go_sem] at q0x2); (have q1x0 := hcb (w.heap.size + 1) 0 (by simp <;> omega)); (simp [go_sem] at q1x0); (have q1x1 := hcb (w.heap.size + 1) 1 (by simp <;> omega)); (simp [go_sem] at q1x1); (have q1x2 := hcb (w.heap.size + 1) 2 (by simp <;> omega)); (simp [go_sem] at q1x2)) | (go_at_call 71; refine (specFreeAt_any _ _ _ _ _).mono ?_; rintro e w1 ⟨rfl, hb'⟩; (first | (have hb2 := bstep hb' hb hb.size; clear hb' hcb hfb hz1 hz2 hz3 hz4 hb; have hb := hb2; clear hb2) | (have hb := hb'; clear hb')); obtain ⟨hcb, hfb, hz1, hz2, hz3, hz4⟩ := bcell hb; (try simp only [World.size_alloc, World.size_setCell, World.size_drew, Nat.lt_add_one_iff, Nat.add_assoc, Nat.reduceAdd] at hz1 hz2 hz3 hz4); (have q0x0 := hcb w.heap.size 0 (by simp <;> omega)); (simp [go_sem] at q0x0); (have q0x1 := hcb w.heap.size 1 (by simp <;> omega)); (simp [go_sem] at q0x1); (have q0x2 := hcb w.heap.size 2 (by simp <;> omega)); (simp [go_sem] at q0x2); (have q1x0 := hcb (w.heap.size + 1) 0 (by simp <;> omega)); (simp [go_sem] at q1x0); (have q1x1 := hcb (w.heap.size + 1) 1 (by simp <;> omega)); (simp [go_sem] at q1x1); (have q1x2 := hcb (w.heap.size + 1) 2 (by simp <;> omega)); (simp [go_sem] at q1x2)) | (go_at_call 69; refine (l16Who_any _ _).mono ?_; rintro e w' ⟨rfl, rfl⟩) | (go_at_call 61; refine (l16Time_any _ _).mono ?_; rintro e w' ⟨rfl, rfl⟩) | (go_at_call 60; refine (l1In_any _ _ _ _).mono ?_; rintro e w' ⟨rfl, rfl⟩) | (go_at_call 70; refine (max_any _ _ _).mono ?_; rintro e w' ⟨rfl, rfl⟩))
    all_goals refine bodyPost_ret (v := .tuple #[.agg #[.int .i64 (0), .int .i64 (0), .int .i64 (0)], .bool false]) (by simp [results, Tryz.results35, go_sem, *] <;> omega) rfl ⟨rfl, by (repeat' (first | (with_reducible exact Below.refl _ _) | (with_reducible assumption) | (with_reducible refine Below.alloc ?_ ?_ _) | (with_reducible refine Below.drew ?_) | (with_reducible refine Below.setCell ?_ ?_ _) | (with_reducible refine bstep (by assumption) ?_ ?_) | (with_reducible exact Nat.le_refl _) | omega | (simp [*]; done) | (simp [*]; omega)))⟩
set_option maxHeartbeats 2000000 in
theorem Granted_any (a e u who t long : Int) (w : World) :
    Calls Tryz.prog 108 #[.agg #[.int .i64 a, .int .i64 e, .int .i64 u], .int .i64 who, .int .i64 t, .int .i64 long] w (RetGrant w (grantL a e u who t long)) := by
  by_cases h1 : leaseB a e u = true
  · obtain ⟨b5, b6, b7, b8⟩ := lease_e h1
    by_cases h2 : (whoB who && (inB t 0 1000000 && inB long 1 1000)) = true
    · have h2' := h2
      simp only [Bool.and_eq_true] at h2'
      obtain ⟨e1, e2, e3⟩ := h2'
      obtain ⟨b1, b2⟩ := (inB_iff _ _ _).1 e2
      obtain ⟨b3, b4⟩ := (inB_iff _ _ _).1 e3
      by_cases h3 : a = who
      · have hv : grantL a e u who t long = ((a, e, max u (t + long)), true) := by unfold grantL; rw [if_pos h1, if_pos h2, if_pos h3]
        rw [hv]
        subst h3
        clear hv h2
        go_enter Tryz.func108, Tryz.ntmps108
        go_wp2_with (first | (go_at_call 78; refine (leaseOk_any _ _ _ _).mono ?_; rintro e w1 ⟨rfl, hb'⟩; (first | (have hb2 := bstep hb' hb hb.size; clear hb' hcb hfb hz1 hz2 hz3 hz4 hb; have hb := hb2; clear hb2) | (have hb := hb'; clear hb')); obtain ⟨hcb, hfb, hz1, hz2, hz3, hz4⟩ := bcell hb; (try simp only [World.size_alloc, World.size_setCell, World.size_drew, Nat.lt_add_one_iff, Nat.add_assoc, Nat.reduceAdd] at hz1 hz2 hz3 hz4); (have q0x0 := hcb w.heap.size 0 (by simp <;> omega)); (simp [go_sem] at q0x0); (have q0x1 := hcb w.heap.size 1 (by simp <;> omega)); (simp [go_sem] at q0x1); (have q0x2 := hcb w.heap.size 2 (by simp <;> omega)); (simp [go_sem] at q0x2); (have q1x0 := hcb (w.heap.size + 1) 0 (by simp <;> omega)); (simp [go_sem] at q1x0); (have q1x1 := hcb (w.heap.size + 1) 1 (by simp <;> omega)); (simp [go_sem] at q1x1); (have q1x2 := hcb (w.heap.size + 1) 2 (by simp <;> omega)); (simp [go_sem] at q1x2)) | (go_at_call 137; refine (freeAt_any _ _ _ _ _).mono ?_; rintro e w2 ⟨rfl, hb2⟩; obtain ⟨hcb2, hfb2, hy1, hy2, hy3, hy4⟩ := bcell hb2; (have p0 := hcb2 w1.heap.size 0 (by simp)); (simp [go_sem] at p0); (have p1 := hcb2 w1.heap.size 1 (by simp)); (simp [go_sem] at p1); (have p2 := hcb2 w1.heap.size 2 (by simp)); (simp [go_sem] at p2); (have hsz : w.heap.size + 1 < w1.heap.size := hz1 _ (by simp <;> omega)); (have r0 := hcb2 (w.heap.size + 1) 0 (by simp; omega)); (simp [go_sem, hsz, q1x0] at r0); (have r1 := hcb2 (w.heap.size + 1) 1 (by simp; omega)); (simp [go_sem, hsz, q1x1] at r1); (have r2 := hcb2 (w.heap.size + 1) 2 (by simp; omega)); (simp [go_sem, hsz, q1x2] at r2); (have f1 := hfb2 w1.heap.size 0 (by simp)); (have hsz2 : w1.heap.size < w2.heap.size := hy1 _ (by simp))) | (go_at_call 92; refine (schedOk_any _ _).mono ?_; rintro e w' ⟨rfl, rfl⟩) | (go_at_call 75; refine (timeOk_any _ _).mono ?_; rintro e w' ⟨rfl, rfl⟩) | (go_at_call 74; refine (between_any _ _ _ _).mono ?_; rintro e w' ⟨rfl, rfl⟩) | (go_at_call 125; go_in))
        all_goals refine bodyPost_ret (v := .tuple #[.agg #[.int .i64 (a), .int .i64 (e), .int .i64 (max u (t + long))], .bool true]) (by simp [results, Tryz.results108, go_sem, *] <;> omega) rfl ⟨rfl, by (repeat' (first | (with_reducible exact Below.refl _ _) | (with_reducible assumption) | (with_reducible refine Below.alloc ?_ ?_ _) | (with_reducible refine Below.drew ?_) | (with_reducible refine Below.setCell ?_ ?_ _) | (with_reducible refine bstep (by assumption) ?_ ?_) | (with_reducible exact Nat.le_refl _) | omega | (simp [*]; done) | (simp [*]; omega)))⟩
      · have h3' : (a == who) = false := by simpa using h3
        by_cases h4 : (freeB a u t && decide (e < 1000)) = true
        · have hv : grantL a e u who t long = ((who, e + 1, t + long), true) := by unfold grantL; rw [if_pos h1, if_pos h2, if_neg h3, if_pos h4]
          rw [hv]
          simp only [Bool.and_eq_true, decide_eq_true_eq] at h4
          obtain ⟨h4, h5⟩ := h4
          have h9 := h4
          clear hv h2 h3
          go_enter Tryz.func108, Tryz.ntmps108
          go_wp2_with (first | (go_at_call 78; refine (leaseOk_any _ _ _ _).mono ?_; rintro e w1 ⟨rfl, hb'⟩; (first | (have hb2 := bstep hb' hb hb.size; clear hb' hcb hfb hz1 hz2 hz3 hz4 hb; have hb := hb2; clear hb2) | (have hb := hb'; clear hb')); obtain ⟨hcb, hfb, hz1, hz2, hz3, hz4⟩ := bcell hb; (try simp only [World.size_alloc, World.size_setCell, World.size_drew, Nat.lt_add_one_iff, Nat.add_assoc, Nat.reduceAdd] at hz1 hz2 hz3 hz4); (have q0x0 := hcb w.heap.size 0 (by simp <;> omega)); (simp [go_sem] at q0x0); (have q0x1 := hcb w.heap.size 1 (by simp <;> omega)); (simp [go_sem] at q0x1); (have q0x2 := hcb w.heap.size 2 (by simp <;> omega)); (simp [go_sem] at q0x2); (have q1x0 := hcb (w.heap.size + 1) 0 (by simp <;> omega)); (simp [go_sem] at q1x0); (have q1x1 := hcb (w.heap.size + 1) 1 (by simp <;> omega)); (simp [go_sem] at q1x1); (have q1x2 := hcb (w.heap.size + 1) 2 (by simp <;> omega)); (simp [go_sem] at q1x2)) | (go_at_call 137; refine (freeAt_any _ _ _ _ _).mono ?_; rintro e w2 ⟨rfl, hb2⟩; obtain ⟨hcb2, hfb2, hy1, hy2, hy3, hy4⟩ := bcell hb2; (have p0 := hcb2 w1.heap.size 0 (by simp)); (simp [go_sem] at p0); (have p1 := hcb2 w1.heap.size 1 (by simp)); (simp [go_sem] at p1); (have p2 := hcb2 w1.heap.size 2 (by simp)); (simp [go_sem] at p2); (have hsz : w.heap.size + 1 < w1.heap.size := hz1 _ (by simp <;> omega)); (have r0 := hcb2 (w.heap.size + 1) 0 (by simp; omega)); (simp [go_sem, hsz, q1x0] at r0); (have r1 := hcb2 (w.heap.size + 1) 1 (by simp; omega)); (simp [go_sem, hsz, q1x1] at r1); (have r2 := hcb2 (w.heap.size + 1) 2 (by simp; omega)); (simp [go_sem, hsz, q1x2] at r2); (have f1 := hfb2 w1.heap.size 0 (by simp)); (have hsz2 : w1.heap.size < w2.heap.size := hy1 _ (by simp))) | (go_at_call 92; refine (schedOk_any _ _).mono ?_; rintro e w' ⟨rfl, rfl⟩) | (go_at_call 75; refine (timeOk_any _ _).mono ?_; rintro e w' ⟨rfl, rfl⟩) | (go_at_call 74; refine (between_any _ _ _ _).mono ?_; rintro e w' ⟨rfl, rfl⟩) | (go_at_call 125; go_in))
          all_goals refine bodyPost_ret (v := .tuple #[.agg #[.int .i64 (who), .int .i64 (e + 1), .int .i64 (t + long)], .bool true]) (by simp [results, Tryz.results108, go_sem, *] <;> omega) rfl ⟨rfl, by (repeat' (first | (with_reducible exact Below.refl _ _) | (with_reducible assumption) | (with_reducible refine Below.alloc ?_ ?_ _) | (with_reducible refine Below.drew ?_) | (with_reducible refine Below.setCell ?_ ?_ _) | (with_reducible refine bstep (by assumption) ?_ ?_) | (with_reducible exact Nat.le_refl _) | omega | (simp [*]; done) | (simp [*]; omega)))⟩
        · have hv : grantL a e u who t long = ((a, e, u), false) := by unfold grantL; rw [if_pos h1, if_pos h2, if_neg h3, if_neg h4]
          rw [hv]
          clear hv h2 h3
          rcases (show freeB a u t = false ∨ (freeB a u t = true ∧ 1000 ≤ e) by
            cases hf : freeB a u t with
            | false => exact .inl rfl
            | true => rw [hf] at h4; simp at h4; exact .inr ⟨rfl, h4⟩) with h6 | ⟨h6, h7⟩
          · have h9 := h6
            clear h4
            go_enter Tryz.func108, Tryz.ntmps108
            go_wp2_with (first | (go_at_call 78; refine (leaseOk_any _ _ _ _).mono ?_; rintro e w1 ⟨rfl, hb'⟩; (first | (have hb2 := bstep hb' hb hb.size; clear hb' hcb hfb hz1 hz2 hz3 hz4 hb; have hb := hb2; clear hb2) | (have hb := hb'; clear hb')); obtain ⟨hcb, hfb, hz1, hz2, hz3, hz4⟩ := bcell hb; (try simp only [World.size_alloc, World.size_setCell, World.size_drew, Nat.lt_add_one_iff, Nat.add_assoc, Nat.reduceAdd] at hz1 hz2 hz3 hz4); (have q0x0 := hcb w.heap.size 0 (by simp <;> omega)); (simp [go_sem] at q0x0); (have q0x1 := hcb w.heap.size 1 (by simp <;> omega)); (simp [go_sem] at q0x1); (have q0x2 := hcb w.heap.size 2 (by simp <;> omega)); (simp [go_sem] at q0x2); (have q1x0 := hcb (w.heap.size + 1) 0 (by simp <;> omega)); (simp [go_sem] at q1x0); (have q1x1 := hcb (w.heap.size + 1) 1 (by simp <;> omega)); (simp [go_sem] at q1x1); (have q1x2 := hcb (w.heap.size + 1) 2 (by simp <;> omega)); (simp [go_sem] at q1x2)) | (go_at_call 137; refine (freeAt_any _ _ _ _ _).mono ?_; rintro e w2 ⟨rfl, hb2⟩; obtain ⟨hcb2, hfb2, hy1, hy2, hy3, hy4⟩ := bcell hb2; (have p0 := hcb2 w1.heap.size 0 (by simp)); (simp [go_sem] at p0); (have p1 := hcb2 w1.heap.size 1 (by simp)); (simp [go_sem] at p1); (have p2 := hcb2 w1.heap.size 2 (by simp)); (simp [go_sem] at p2); (have hsz : w.heap.size + 1 < w1.heap.size := hz1 _ (by simp <;> omega)); (have r0 := hcb2 (w.heap.size + 1) 0 (by simp; omega)); (simp [go_sem, hsz, q1x0] at r0); (have r1 := hcb2 (w.heap.size + 1) 1 (by simp; omega)); (simp [go_sem, hsz, q1x1] at r1); (have r2 := hcb2 (w.heap.size + 1) 2 (by simp; omega)); (simp [go_sem, hsz, q1x2] at r2); (have f1 := hfb2 w1.heap.size 0 (by simp)); (have hsz2 : w1.heap.size < w2.heap.size := hy1 _ (by simp))) | (go_at_call 92; refine (schedOk_any _ _).mono ?_; rintro e w' ⟨rfl, rfl⟩) | (go_at_call 75; refine (timeOk_any _ _).mono ?_; rintro e w' ⟨rfl, rfl⟩) | (go_at_call 74; refine (between_any _ _ _ _).mono ?_; rintro e w' ⟨rfl, rfl⟩) | (go_at_call 125; go_in))
            all_goals refine bodyPost_ret (v := .tuple #[.agg #[.int .i64 (a), .int .i64 (e), .int .i64 (u)], .bool false]) (by simp [results, Tryz.results108, go_sem, *] <;> omega) rfl ⟨rfl, by (repeat' (first | (with_reducible exact Below.refl _ _) | (with_reducible assumption) | (with_reducible refine Below.alloc ?_ ?_ _) | (with_reducible refine Below.drew ?_) | (with_reducible refine Below.setCell ?_ ?_ _) | (with_reducible refine bstep (by assumption) ?_ ?_) | (with_reducible exact Nat.le_refl _) | omega | (simp [*]; done) | (simp [*]; omega)))⟩
          · have h9 := h6
            clear h4
            go_enter Tryz.func108, Tryz.ntmps108
            go_wp2_with (first | (go_at_call 78; refine (leaseOk_any _ _ _ _).mono ?_; rintro e w1 ⟨rfl, hb'⟩; (first | (have hb2 := bstep hb' hb hb.size; clear hb' hcb hfb hz1 hz2 hz3 hz4 hb; have hb := hb2; clear hb2) | (have hb := hb'; clear hb')); obtain ⟨hcb, hfb, hz1, hz2, hz3, hz4⟩ := bcell hb; (try simp only [World.size_alloc, World.size_setCell, World.size_drew, Nat.lt_add_one_iff, Nat.add_assoc, Nat.reduceAdd] at hz1 hz2 hz3 hz4); (have q0x0 := hcb w.heap.size 0 (by simp <;> omega)); (simp [go_sem] at q0x0); (have q0x1 := hcb w.heap.size 1 (by simp <;> omega)); (simp [go_sem] at q0x1); (have q0x2 := hcb w.heap.size 2 (by simp <;> omega)); (simp [go_sem] at q0x2); (have q1x0 := hcb (w.heap.size + 1) 0 (by simp <;> omega)); (simp [go_sem] at q1x0); (have q1x1 := hcb (w.heap.size + 1) 1 (by simp <;> omega)); (simp [go_sem] at q1x1); (have q1x2 := hcb (w.heap.size + 1) 2 (by simp <;> omega)); (simp [go_sem] at q1x2)) | (go_at_call 137; refine (freeAt_any _ _ _ _ _).mono ?_; rintro e w2 ⟨rfl, hb2⟩; obtain ⟨hcb2, hfb2, hy1, hy2, hy3, hy4⟩ := bcell hb2; (have p0 := hcb2 w1.heap.size 0 (by simp)); (simp [go_sem] at p0); (have p1 := hcb2 w1.heap.size 1 (by simp)); (simp [go_sem] at p1); (have p2 := hcb2 w1.heap.size 2 (by simp)); (simp [go_sem] at p2); (have hsz : w.heap.size + 1 < w1.heap.size := hz1 _ (by simp <;> omega)); (have r0 := hcb2 (w.heap.size + 1) 0 (by simp; omega)); (simp [go_sem, hsz, q1x0] at r0); (have r1 := hcb2 (w.heap.size + 1) 1 (by simp; omega)); (simp [go_sem, hsz, q1x1] at r1); (have r2 := hcb2 (w.heap.size + 1) 2 (by simp; omega)); (simp [go_sem, hsz, q1x2] at r2); (have f1 := hfb2 w1.heap.size 0 (by simp)); (have hsz2 : w1.heap.size < w2.heap.size := hy1 _ (by simp))) | (go_at_call 92; refine (schedOk_any _ _).mono ?_; rintro e w' ⟨rfl, rfl⟩) | (go_at_call 75; refine (timeOk_any _ _).mono ?_; rintro e w' ⟨rfl, rfl⟩) | (go_at_call 74; refine (between_any _ _ _ _).mono ?_; rintro e w' ⟨rfl, rfl⟩) | (go_at_call 125; go_in))
            all_goals refine bodyPost_ret (v := .tuple #[.agg #[.int .i64 (a), .int .i64 (e), .int .i64 (u)], .bool false]) (by simp [results, Tryz.results108, go_sem, *] <;> omega) rfl ⟨rfl, by (repeat' (first | (with_reducible exact Below.refl _ _) | (with_reducible assumption) | (with_reducible refine Below.alloc ?_ ?_ _) | (with_reducible refine Below.drew ?_) | (with_reducible refine Below.setCell ?_ ?_ _) | (with_reducible refine bstep (by assumption) ?_ ?_) | (with_reducible exact Nat.le_refl _) | omega | (simp [*]; done) | (simp [*]; omega)))⟩
    · have hv : grantL a e u who t long = ((a, e, u), false) := by unfold grantL; rw [if_pos h1, if_neg h2]
      rw [hv]
      clear hv
      rcases (show whoB who = false ∨ (whoB who = true ∧ inB t 0 1000000 = false) ∨ (whoB who = true ∧ inB t 0 1000000 = true ∧ inB long 1 1000 = false) by
        cases hf : whoB who with
        | false => exact .inl rfl
        | true =>
          cases hg : inB t 0 1000000 with
          | false => exact .inr (.inl ⟨rfl, rfl⟩)
          | true => rw [hf, hg] at h2; simp at h2; exact .inr (.inr ⟨rfl, rfl, h2⟩)) with h6 | ⟨h6, h7⟩ | ⟨h6, h7, h8⟩
      all_goals clear h2
      all_goals go_enter Tryz.func108, Tryz.ntmps108
      all_goals go_wp2_with (first | (go_at_call 78; refine (leaseOk_any _ _ _ _).mono ?_; rintro e w1 ⟨rfl, hb'⟩; (first | (have hb2 := bstep hb' hb hb.size; clear hb' hcb hfb hz1 hz2 hz3 hz4 hb; have hb := hb2; clear hb2) | (have hb := hb'; clear hb')); obtain ⟨hcb, hfb, hz1, hz2, hz3, hz4⟩ := bcell hb; (try simp only [World.size_alloc, World.size_setCell, World.size_drew, Nat.lt_add_one_iff, Nat.add_assoc, Nat.reduceAdd] at hz1 hz2 hz3 hz4); (have q0x0 := hcb w.heap.size 0 (by simp <;> omega)); (simp [go_sem] at q0x0); (have q0x1 := hcb w.heap.size 1 (by simp <;> omega)); (simp [go_sem] at q0x1); (have q0x2 := hcb w.heap.size 2 (by simp <;> omega)); (simp [go_sem] at q0x2); (have q1x0 := hcb (w.heap.size + 1) 0 (by simp <;> omega)); (simp [go_sem] at q1x0); (have q1x1 := hcb (w.heap.size + 1) 1 (by simp <;> omega)); (simp [go_sem] at q1x1); (have q1x2 := hcb (w.heap.size + 1) 2 (by simp <;> omega)); (simp [go_sem] at q1x2)) | (go_at_call 137; refine (freeAt_any _ _ _ _ _).mono ?_; rintro e w2 ⟨rfl, hb2⟩; obtain ⟨hcb2, hfb2, hy1, hy2, hy3, hy4⟩ := bcell hb2; (have p0 := hcb2 w1.heap.size 0 (by simp)); (simp [go_sem] at p0); (have p1 := hcb2 w1.heap.size 1 (by simp)); (simp [go_sem] at p1); (have p2 := hcb2 w1.heap.size 2 (by simp)); (simp [go_sem] at p2); (have hsz : w.heap.size + 1 < w1.heap.size := hz1 _ (by simp <;> omega)); (have r0 := hcb2 (w.heap.size + 1) 0 (by simp; omega)); (simp [go_sem, hsz, q1x0] at r0); (have r1 := hcb2 (w.heap.size + 1) 1 (by simp; omega)); (simp [go_sem, hsz, q1x1] at r1); (have r2 := hcb2 (w.heap.size + 1) 2 (by simp; omega)); (simp [go_sem, hsz, q1x2] at r2); (have f1 := hfb2 w1.heap.size 0 (by simp)); (have hsz2 : w1.heap.size < w2.heap.size := hy1 _ (by simp))) | (go_at_call 92; refine (schedOk_any _ _).mono ?_; rintro e w' ⟨rfl, rfl⟩) | (go_at_call 75; refine (timeOk_any _ _).mono ?_; rintro e w' ⟨rfl, rfl⟩) | (go_at_call 74; refine (between_any _ _ _ _).mono ?_; rintro e w' ⟨rfl, rfl⟩) | (go_at_call 125; go_in))
      all_goals refine bodyPost_ret (v := .tuple #[.agg #[.int .i64 (a), .int .i64 (e), .int .i64 (u)], .bool false]) (by simp [results, Tryz.results108, go_sem, *] <;> omega) rfl ⟨rfl, by (repeat' (first | (with_reducible exact Below.refl _ _) | (with_reducible assumption) | (with_reducible refine Below.alloc ?_ ?_ _) | (with_reducible refine Below.drew ?_) | (with_reducible refine Below.setCell ?_ ?_ _) | (with_reducible refine bstep (by assumption) ?_ ?_) | (with_reducible exact Nat.le_refl _) | omega | (simp [*]; done) | (simp [*]; omega)))⟩
  · have hv : grantL a e u who t long = ((0, 0, 0), false) := by unfold grantL; rw [if_neg h1]
    rw [hv]
    have h1' : leaseB a e u = false := by simpa using h1
    clear hv h1
    go_enter Tryz.func108, Tryz.ntmps108
    go_wp2_with (first | (go_at_call 78; refine (leaseOk_any _ _ _ _).mono ?_; rintro e w1 ⟨rfl, hb'⟩; (first | (have hb2 := bstep hb' hb hb.size; clear hb' hcb hfb hz1 hz2 hz3 hz4 hb; have hb := hb2; clear hb2) | (have hb := hb'; clear hb')); obtain ⟨hcb, hfb, hz1, hz2, hz3, hz4⟩ := bcell hb; (try simp only [World.size_alloc, World.size_setCell, World.size_drew, Nat.lt_add_one_iff, Nat.add_assoc, Nat.reduceAdd] at hz1 hz2 hz3 hz4); (have q0x0 := hcb w.heap.size 0 (by simp <;> omega)); (simp [go_sem] at q0x0); (have q0x1 := hcb w.heap.size 1 (by simp <;> omega)); (simp [go_sem] at q0x1); (have q0x2 := hcb w.heap.size 2 (by simp <;> omega)); (simp [go_sem] at q0x2); (have q1x0 := hcb (w.heap.size + 1) 0 (by simp <;> omega)); (simp [go_sem] at q1x0); (have q1x1 := hcb (w.heap.size + 1) 1 (by simp <;> omega)); (simp [go_sem] at q1x1); (have q1x2 := hcb (w.heap.size + 1) 2 (by simp <;> omega)); (simp [go_sem] at q1x2)) | (go_at_call 137; refine (freeAt_any _ _ _ _ _).mono ?_; rintro e w2 ⟨rfl, hb2⟩; obtain ⟨hcb2, hfb2, hy1, hy2, hy3, hy4⟩ := bcell hb2; (have p0 := hcb2 w1.heap.size 0 (by simp)); (simp [go_sem] at p0); (have p1 := hcb2 w1.heap.size 1 (by simp)); (simp [go_sem] at p1); (have p2 := hcb2 w1.heap.size 2 (by simp)); (simp [go_sem] at p2); (have hsz : w.heap.size + 1 < w1.heap.size := hz1 _ (by simp <;> omega)); (have r0 := hcb2 (w.heap.size + 1) 0 (by simp; omega)); (simp [go_sem, hsz, q1x0] at r0); (have r1 := hcb2 (w.heap.size + 1) 1 (by simp; omega)); (simp [go_sem, hsz, q1x1] at r1); (have r2 := hcb2 (w.heap.size + 1) 2 (by simp; omega)); (simp [go_sem, hsz, q1x2] at r2); (have f1 := hfb2 w1.heap.size 0 (by simp)); (have hsz2 : w1.heap.size < w2.heap.size := hy1 _ (by simp))) | (go_at_call 92; refine (schedOk_any _ _).mono ?_; rintro e w' ⟨rfl, rfl⟩) | (go_at_call 75; refine (timeOk_any _ _).mono ?_; rintro e w' ⟨rfl, rfl⟩) | (go_at_call 74; refine (between_any _ _ _ _).mono ?_; rintro e w' ⟨rfl, rfl⟩) | (go_at_call 125; go_in))
    all_goals refine bodyPost_ret (v := .tuple #[.agg #[.int .i64 (0), .int .i64 (0), .int .i64 (0)], .bool false]) (by simp [results, Tryz.results108, go_sem, *] <;> omega) rfl ⟨rfl, by (repeat' (first | (with_reducible exact Below.refl _ _) | (with_reducible assumption) | (with_reducible refine Below.alloc ?_ ?_ _) | (with_reducible refine Below.drew ?_) | (with_reducible refine Below.setCell ?_ ?_ _) | (with_reducible refine bstep (by assumption) ?_ ?_) | (with_reducible exact Nat.le_refl _) | omega | (simp [*]; done) | (simp [*]; omega)))⟩
end Go.Proofs.YtokklkmibjpjnaaGreat
namespace Go.Proofs.YtokklkmibjpjnaaGreat
set_option linter.unusedSimpArgs false
set_option linter.unusedVariables false
attribute [local go_sem] n_lt2 n_lt3 n_lt4 n_le2 n_le3
open Go.RowKit
attribute [local go_sem] Ext.cell Ext.frozen
/-- What an effect hands back: a state (told where the effect took place) and whether it did. -/
def RetEff (w : World) (lo : Nat) (i0 t0 : Int) (pl : List Pr) (ql : List Jb) (h e u : Int) (ok : Bool) (en : Ending) (w' : World) : Prop :=
  ∃ (A : Option Addr) (n c : Nat) (B : Option Addr) (m d : Nat) (h' e' u' : Int), en = .returned (.tuple #[.agg #[.int .i64 i0, .int .i64 t0, .slice A n c, .slice B m d, .int .i64 h', .int .i64 e', .int .i64 u'], .bool ok]) ∧ Below w.heap.size w w' ∧
    (ok = true → h' = h ∧ e' = e ∧ u' = u ∧ Sl w' 2 A n (PR pl) ∧ pl.length = n ∧ (A = none → n = 0 ∧ c = 0) ∧ Sl w' 5 B m (JB ql) ∧ ql.length = m ∧ (B = none → m = 0 ∧ d = 0) ∧ (0 < n → ∀ a, A = some a → a.block < lo ∨ w.heap.size ≤ a.block) ∧ (0 < m → ∀ a, B = some a → a.block < lo ∨ w.heap.size ≤ a.block))
theorem RetEff.of {w w' : World} {lo : Nat} {i0 t0 : Int} {pl pl2 : List Pr} {ql ql2 : List Jb} {h e u : Int} {ok : Bool} {A : Option Addr} {n c : Nat} {B : Option Addr} {m d : Nat} (b : Below w.heap.size w w') (hp : pl2 = pl) (hq : ql2 = ql) (h1 : Sl w' 2 A n (PR pl)) (h2 : pl.length = n) (h3 : A = none → n = 0 ∧ c = 0) (h4 : Sl w' 5 B m (JB ql)) (h5 : ql.length = m) (h6 : B = none → m = 0 ∧ d = 0) (h7 : 0 < n → ∀ a, A = some a → a.block < lo ∨ w.heap.size ≤ a.block) (h8 : 0 < m → ∀ a, B = some a → a.block < lo ∨ w.heap.size ≤ a.block) :
    RetEff w lo i0 t0 pl2 ql2 h e u ok (.returned (.tuple #[.agg #[.int .i64 i0, .int .i64 t0, .slice A n c, .slice B m d, .int .i64 h, .int .i64 e, .int .i64 u], .bool ok])) w' := by
  subst hp hq
  exact ⟨A, n, c, B, m, d, h, e, u, rfl, b, fun _ => ⟨rfl, rfl, rfl, h1, h2, h3, h4, h5, h6, h7, h8⟩⟩
theorem RetEff.no {w w' : World} {lo : Nat} {i0 t0 : Int} {pl2 : List Pr} {ql2 : List Jb} {h2 e2 u2 h e u : Int} {A : Option Addr} {n c : Nat} {B : Option Addr} {m d : Nat} (b : Below w.heap.size w w') :
    RetEff w lo i0 t0 pl2 ql2 h2 e2 u2 false (.returned (.tuple #[.agg #[.int .i64 i0, .int .i64 t0, .slice A n c, .slice B m d, .int .i64 h, .int .i64 e, .int .i64 u], .bool false])) w' :=
  ⟨A, n, c, B, m, d, h, e, u, rfl, b, fun hh => absurd hh (by decide)⟩
set_option maxRecDepth 100000 in
set_option maxHeartbeats 4000000 in
theorem eff1_g (A : Option Addr) (n c : Nat) (B : Option Addr) (m d : Nat) (i0 t0 l0 l1 l2 : Int) (pl : List Pr) (ql : List Jb) (ex et ec es ek ea eb eg eh : Int) (w : World) (hP : Sl w 2 A n (PR pl)) (hQ : Sl w 5 B m (JB ql)) (hl : pl.length = n) (hr : ql.length = m) (hn : n ≤ maxLen) (hm : m ≤ maxLen) (hA : A = none → n = 0 ∧ c = 0) (hB : B = none → m = 0 ∧ d = 0) (lo : Nat) (hPl : 0 < n → LtB A lo) (hQl : 0 < m → LtB B lo) (p2 : List Pr) (k2 : Nat) (ok : Bool) (hp2 : Hid (putR pl ea eb = (p2, ok))) (hk2 : Hid (p2.length = k2)) :
    Calls Tryz.prog 97 #[.agg #[.int .i64 i0, .int .i64 t0, .slice A n c, .slice B m d, .int .i64 l0, .int .i64 l1, .int .i64 l2], .agg #[.int .i64 ex, .int .i64 et, .int .i64 ec, .int .i64 es, .int .i64 ek, .int .i64 ea, .int .i64 eb, .int .i64 eg, .int .i64 eh]] w (RetEff w lo i0 t0 p2 ql l0 l1 l2 ok) := by
  have HP := Lib.hid hP
  have HQ := Lib.hid hQ
  have HA := Lib.hid hA
  have HB := Lib.hid hB
  have hL := Lib.hid hl
  have hR := Lib.hid hr
  clear hP hQ hA hB hl hr
  go_enter Tryz.func97, Tryz.ntmps97
  go_wp2_with fail
  refine calls_named ?_
  rintro v0 hv0
  have f0 : Below w.heap.size w v0 := by rw [hv0]; (repeat' (first | (with_reducible exact Below.refl _ _) | (with_reducible assumption) | (with_reducible refine Below.alloc ?_ ?_ _) | (with_reducible refine Below.drew ?_) | (with_reducible refine Below.setCell ?_ ?_ _) | (with_reducible refine bstep (by assumption) ?_ ?_) | (with_reducible exact Nat.le_refl _) | omega | (simp [*]; done) | (simp [*]; omega)))
  have z0 : w.heap.size + 3 ≤ v0.heap.size := by rw [hv0]; simp [size_set]
  have HP_0 := Lib.hid (HP.out.below f0)
  have HP_lt := Lib.hid (fun hn => HP.out.lt hn)
  have HQ_0 := Lib.hid (HQ.out.below f0)
  have HQ_lt := Lib.hid (fun hn => HQ.out.lt hn)
  have Ha_0 : Hid (Blk v0 w.heap.size 37 #[.int .i64 i0, .int .i64 t0, .slice A n c, .slice B m d, .int .i64 l0, .int .i64 l1, .int .i64 l2]) := by rw [hv0]; exact ((Blk.new_at _ _ _ _ (by simp)).alloc _).alloc _
  have Hb_0 : Hid (Blk v0 (w.heap.size + 1) 43 #[.int .i64 ex, .int .i64 et, .int .i64 ec, .int .i64 es, .int .i64 ek, .int .i64 ea, .int .i64 eb, .int .i64 eg, .int .i64 eh]) := by rw [hv0]; exact (Blk.new_at _ _ _ _ (by simp)).alloc _
  have Hr_0 : Hid (Blk v0 (w.heap.size + 1 + 1) 37 #[.int .i64 0, .int .i64 0, .slice none 0 0, .slice none 0 0, .int .i64 0, .int .i64 0, .int .i64 0]) := by rw [hv0]; exact Blk.new_at _ _ _ _ (by simp)
  clear hv0
  generalize hg2 : w.heap.size + 1 + 1 = g2 at *
  generalize hg1 : w.heap.size + 1 = g1 at *
  have lg1 : w.heap.size < g1 := by omega
  have lg2 : g1 < g2 := by omega
  have lgz : g2 < v0.heap.size := by omega
  have nq1x0 : ¬ g1 = w.heap.size := by omega
  have nq0x1 : ¬ w.heap.size = g1 := by omega
  have nq2x0 : ¬ g2 = w.heap.size := by omega
  have nq0x2 : ¬ w.heap.size = g2 := by omega
  have nq2x1 : ¬ g2 = g1 := by omega
  have nq1x2 : ¬ g1 = g2 := by omega
  clear hg1 hg2
  have lt_a := Ha_0.out.lt
  have r_a0 : v0.cell? ⟨w.heap.size, 0, none⟩ = some (.int .i64 i0) := Ha_0.out.cell 0
  have r_a1 : v0.cell? ⟨w.heap.size, 1, none⟩ = some (.int .i64 t0) := Ha_0.out.cell 1
  have r_a2 : v0.cell? ⟨w.heap.size, 2, none⟩ = some (.slice A n c) := Ha_0.out.cell 2
  have r_a3 : v0.cell? ⟨w.heap.size, 3, none⟩ = some (.slice B m d) := Ha_0.out.cell 3
  have r_a4 : v0.cell? ⟨w.heap.size, 4, none⟩ = some (.int .i64 l0) := Ha_0.out.cell 4
  have r_a5 : v0.cell? ⟨w.heap.size, 5, none⟩ = some (.int .i64 l1) := Ha_0.out.cell 5
  have r_a6 : v0.cell? ⟨w.heap.size, 6, none⟩ = some (.int .i64 l2) := Ha_0.out.cell 6
  have z_a0 := Ha_0.out.frozen 0
  have z_a1 := Ha_0.out.frozen 1
  have z_a2 := Ha_0.out.frozen 2
  have z_a3 := Ha_0.out.frozen 3
  have z_a4 := Ha_0.out.frozen 4
  have z_a5 := Ha_0.out.frozen 5
  have z_a6 := Ha_0.out.frozen 6
  have lt_b := Hb_0.out.lt
  have r_b0 : v0.cell? ⟨g1, 0, none⟩ = some (.int .i64 ex) := Hb_0.out.cell 0
  have r_b1 : v0.cell? ⟨g1, 1, none⟩ = some (.int .i64 et) := Hb_0.out.cell 1
  have r_b2 : v0.cell? ⟨g1, 2, none⟩ = some (.int .i64 ec) := Hb_0.out.cell 2
  have r_b3 : v0.cell? ⟨g1, 3, none⟩ = some (.int .i64 es) := Hb_0.out.cell 3
  have r_b4 : v0.cell? ⟨g1, 4, none⟩ = some (.int .i64 ek) := Hb_0.out.cell 4
  have r_b5 : v0.cell? ⟨g1, 5, none⟩ = some (.int .i64 ea) := Hb_0.out.cell 5
  have r_b6 : v0.cell? ⟨g1, 6, none⟩ = some (.int .i64 eb) := Hb_0.out.cell 6
  have r_b7 : v0.cell? ⟨g1, 7, none⟩ = some (.int .i64 eg) := Hb_0.out.cell 7
  have r_b8 : v0.cell? ⟨g1, 8, none⟩ = some (.int .i64 eh) := Hb_0.out.cell 8
  have lt_r := Hr_0.out.lt
  have r_r0 : v0.cell? ⟨g2, 0, none⟩ = some (.int .i64 0) := Hr_0.out.cell 0
  have r_r1 : v0.cell? ⟨g2, 1, none⟩ = some (.int .i64 0) := Hr_0.out.cell 1
  have r_r2 : v0.cell? ⟨g2, 2, none⟩ = some (.slice none 0 0) := Hr_0.out.cell 2
  have r_r3 : v0.cell? ⟨g2, 3, none⟩ = some (.slice none 0 0) := Hr_0.out.cell 3
  have r_r4 : v0.cell? ⟨g2, 4, none⟩ = some (.int .i64 0) := Hr_0.out.cell 4
  have r_r5 : v0.cell? ⟨g2, 5, none⟩ = some (.int .i64 0) := Hr_0.out.cell 5
  have r_r6 : v0.cell? ⟨g2, 6, none⟩ = some (.int .i64 0) := Hr_0.out.cell 6
  have z_r0 := Hr_0.out.frozen 0
  have z_r1 := Hr_0.out.frozen 1
  have z_r2 := Hr_0.out.frozen 2
  have z_r3 := Hr_0.out.frozen 3
  have z_r4 := Hr_0.out.frozen 4
  have z_r5 := Hr_0.out.frozen 5
  have z_r6 := Hr_0.out.frozen 6
  have cc := putRI_any A n c pl ea eb v0 HP_0.out hL.out hn HA.out
  rw [hp2.out] at cc
  replace cc := cc.mono (fun _ _ h => Lib.hid h)
  have HX : ∀ e w1, RetRowB v0 106 2 (p2, ok).1.length (PR (p2, ok).1) (p2, ok).2 e w1 → RetRowB v0 106 2 k2 (PR p2) ok e w1 := fun e w1 h => by
    have := hk2.out
    subst this
    exact h
  go_wp2_with fail
  refine cc.mono ?_
  rintro e v1 hx
  obtain ⟨A1, c1, rfl, Rx, b1⟩ := HX _ _ hx.out
  clear HX hx
  have f1 := bthen f0 b1
  have z1 := b1.size
  have HP_1 := Lib.hid (HP_0.out.below b1)
  have HQ_1 := Lib.hid (HQ_0.out.below b1)
  have Ha_1 := Lib.hid (Ha_0.out.below b1)
  have Hb_1 := Lib.hid (Hb_0.out.below b1)
  have Hr_1 := Lib.hid (Hr_0.out.below b1)
  clear lt_a r_a0 r_a1 r_a2 r_a3 r_a4 r_a5 r_a6 z_a0 z_a1 z_a2 z_a3 z_a4 z_a5 z_a6 lt_b r_b0 r_b1 r_b2 r_b3 r_b4 r_b5 r_b6 r_b7 r_b8 lt_r r_r0 r_r1 r_r2 r_r3 r_r4 r_r5 r_r6 z_r0 z_r1 z_r2 z_r3 z_r4 z_r5 z_r6
  clear HP_0 HQ_0 Ha_0 Hb_0 Hr_0
  have Hx_1 := Lib.hid Rx
  clear Rx
  clear cc
  have lt_a := Ha_1.out.lt
  have r_a0 : v1.cell? ⟨w.heap.size, 0, none⟩ = some (.int .i64 i0) := Ha_1.out.cell 0
  have r_a1 : v1.cell? ⟨w.heap.size, 1, none⟩ = some (.int .i64 t0) := Ha_1.out.cell 1
  have r_a2 : v1.cell? ⟨w.heap.size, 2, none⟩ = some (.slice A n c) := Ha_1.out.cell 2
  have r_a3 : v1.cell? ⟨w.heap.size, 3, none⟩ = some (.slice B m d) := Ha_1.out.cell 3
  have r_a4 : v1.cell? ⟨w.heap.size, 4, none⟩ = some (.int .i64 l0) := Ha_1.out.cell 4
  have r_a5 : v1.cell? ⟨w.heap.size, 5, none⟩ = some (.int .i64 l1) := Ha_1.out.cell 5
  have r_a6 : v1.cell? ⟨w.heap.size, 6, none⟩ = some (.int .i64 l2) := Ha_1.out.cell 6
  have z_a0 := Ha_1.out.frozen 0
  have z_a1 := Ha_1.out.frozen 1
  have z_a2 := Ha_1.out.frozen 2
  have z_a3 := Ha_1.out.frozen 3
  have z_a4 := Ha_1.out.frozen 4
  have z_a5 := Ha_1.out.frozen 5
  have z_a6 := Ha_1.out.frozen 6
  have lt_b := Hb_1.out.lt
  have r_b0 : v1.cell? ⟨g1, 0, none⟩ = some (.int .i64 ex) := Hb_1.out.cell 0
  have r_b1 : v1.cell? ⟨g1, 1, none⟩ = some (.int .i64 et) := Hb_1.out.cell 1
  have r_b2 : v1.cell? ⟨g1, 2, none⟩ = some (.int .i64 ec) := Hb_1.out.cell 2
  have r_b3 : v1.cell? ⟨g1, 3, none⟩ = some (.int .i64 es) := Hb_1.out.cell 3
  have r_b4 : v1.cell? ⟨g1, 4, none⟩ = some (.int .i64 ek) := Hb_1.out.cell 4
  have r_b5 : v1.cell? ⟨g1, 5, none⟩ = some (.int .i64 ea) := Hb_1.out.cell 5
  have r_b6 : v1.cell? ⟨g1, 6, none⟩ = some (.int .i64 eb) := Hb_1.out.cell 6
  have r_b7 : v1.cell? ⟨g1, 7, none⟩ = some (.int .i64 eg) := Hb_1.out.cell 7
  have r_b8 : v1.cell? ⟨g1, 8, none⟩ = some (.int .i64 eh) := Hb_1.out.cell 8
  have lt_r := Hr_1.out.lt
  have r_r0 : v1.cell? ⟨g2, 0, none⟩ = some (.int .i64 0) := Hr_1.out.cell 0
  have r_r1 : v1.cell? ⟨g2, 1, none⟩ = some (.int .i64 0) := Hr_1.out.cell 1
  have r_r2 : v1.cell? ⟨g2, 2, none⟩ = some (.slice none 0 0) := Hr_1.out.cell 2
  have r_r3 : v1.cell? ⟨g2, 3, none⟩ = some (.slice none 0 0) := Hr_1.out.cell 3
  have r_r4 : v1.cell? ⟨g2, 4, none⟩ = some (.int .i64 0) := Hr_1.out.cell 4
  have r_r5 : v1.cell? ⟨g2, 5, none⟩ = some (.int .i64 0) := Hr_1.out.cell 5
  have r_r6 : v1.cell? ⟨g2, 6, none⟩ = some (.int .i64 0) := Hr_1.out.cell 6
  have z_r0 := Hr_1.out.frozen 0
  have z_r1 := Hr_1.out.frozen 1
  have z_r2 := Hr_1.out.frozen 2
  have z_r3 := Hr_1.out.frozen 3
  have z_r4 := Hr_1.out.frozen 4
  have z_r5 := Hr_1.out.frozen 5
  have z_r6 := Hr_1.out.frozen 6
  go_wp21
  refine bodyPost_ret (v := .tuple #[.agg #[.int .i64 i0, .int .i64 t0, .slice A1 k2 c1, .slice B m d, .int .i64 l0, .int .i64 l1, .int .i64 l2], .bool ok]) (by simp [results, Tryz.results97, go_sem, *]) rfl ?_
  exact RetEff.of (by (repeat' (first | (with_reducible exact Below.refl _ _) | (with_reducible assumption) | (with_reducible refine Below.alloc ?_ ?_ _) | (with_reducible refine Below.drew ?_) | (with_reducible refine Below.setCell ?_ ?_ _) | (with_reducible refine bstep (by assumption) ?_ ?_) | (with_reducible exact Nat.le_refl _) | omega | (simp [*]; done) | (simp [*]; omega)))) rfl rfl (((((((((Hx_1.out).far (p := ⟨w.heap.size, 2, none⟩) (fun a ha => by have := (Hx_1.out).ge a ha; show a.block ≠ w.heap.size; omega) _).far (p := ⟨g2, 0, none⟩) (fun a ha => by have := (Hx_1.out).ge a ha; show a.block ≠ g2; omega) _).far (p := ⟨g2, 1, none⟩) (fun a ha => by have := (Hx_1.out).ge a ha; show a.block ≠ g2; omega) _).far (p := ⟨g2, 2, none⟩) (fun a ha => by have := (Hx_1.out).ge a ha; show a.block ≠ g2; omega) _).far (p := ⟨g2, 3, none⟩) (fun a ha => by have := (Hx_1.out).ge a ha; show a.block ≠ g2; omega) _).far (p := ⟨g2, 4, none⟩) (fun a ha => by have := (Hx_1.out).ge a ha; show a.block ≠ g2; omega) _).far (p := ⟨g2, 5, none⟩) (fun a ha => by have := (Hx_1.out).ge a ha; show a.block ≠ g2; omega) _).far (p := ⟨g2, 6, none⟩) (fun a ha => by have := (Hx_1.out).ge a ha; show a.block ≠ g2; omega) _).sl hk2.out (row_nil Hx_1.out) (((((((((HQ_1.out).far (p := ⟨w.heap.size, 2, none⟩) (fun hn a ha => by have := HQ_lt.out hn a ha; show a.block ≠ w.heap.size; omega) _).far (p := ⟨g2, 0, none⟩) (fun hn a ha => by have := HQ_lt.out hn a ha; show a.block ≠ g2; omega) _).far (p := ⟨g2, 1, none⟩) (fun hn a ha => by have := HQ_lt.out hn a ha; show a.block ≠ g2; omega) _).far (p := ⟨g2, 2, none⟩) (fun hn a ha => by have := HQ_lt.out hn a ha; show a.block ≠ g2; omega) _).far (p := ⟨g2, 3, none⟩) (fun hn a ha => by have := HQ_lt.out hn a ha; show a.block ≠ g2; omega) _).far (p := ⟨g2, 4, none⟩) (fun hn a ha => by have := HQ_lt.out hn a ha; show a.block ≠ g2; omega) _).far (p := ⟨g2, 5, none⟩) (fun hn a ha => by have := HQ_lt.out hn a ha; show a.block ≠ g2; omega) _).far (p := ⟨g2, 6, none⟩) (fun hn a ha => by have := HQ_lt.out hn a ha; show a.block ≠ g2; omega) _) hR.out HB.out (fun _ a ha => .inr (by have := (Hx_1.out).ge a ha; omega)) (fun h0 a ha => .inl (hQl h0 a ha))
theorem eff1_any (A : Option Addr) (n c : Nat) (B : Option Addr) (m d : Nat) (i0 t0 l0 l1 l2 : Int) (pl : List Pr) (ql : List Jb) (ex et ec es ek ea eb eg eh : Int) (w : World) (hP : Sl w 2 A n (PR pl)) (hQ : Sl w 5 B m (JB ql)) (hl : pl.length = n) (hr : ql.length = m) (hn : n ≤ maxLen) (hm : m ≤ maxLen) (hA : A = none → n = 0 ∧ c = 0) (hB : B = none → m = 0 ∧ d = 0) (lo : Nat) (hPl : 0 < n → LtB A lo) (hQl : 0 < m → LtB B lo) :
    Calls Tryz.prog 97 #[.agg #[.int .i64 i0, .int .i64 t0, .slice A n c, .slice B m d, .int .i64 l0, .int .i64 l1, .int .i64 l2], .agg #[.int .i64 ex, .int .i64 et, .int .i64 ec, .int .i64 es, .int .i64 ek, .int .i64 ea, .int .i64 eb, .int .i64 eg, .int .i64 eh]] w (RetEff w lo i0 t0 (putR pl ea eb).1 ql l0 l1 l2 (putR pl ea eb).2) :=
  eff1_g A n c B m d i0 t0 l0 l1 l2 pl ql ex et ec es ek ea eb eg eh w hP hQ hl hr hn hm hA hB lo hPl hQl _ _ _ (Lib.hid rfl) (Lib.hid rfl)
set_option maxRecDepth 100000 in
set_option maxHeartbeats 4000000 in
theorem eff2_g (A : Option Addr) (n c : Nat) (B : Option Addr) (m d : Nat) (i0 t0 l0 l1 l2 : Int) (pl : List Pr) (ql : List Jb) (ex et ec es ek ea eb eg eh : Int) (w : World) (hP : Sl w 2 A n (PR pl)) (hQ : Sl w 5 B m (JB ql)) (hl : pl.length = n) (hr : ql.length = m) (hn : n ≤ maxLen) (hm : m ≤ maxLen) (hA : A = none → n = 0 ∧ c = 0) (hB : B = none → m = 0 ∧ d = 0) (lo : Nat) (hPl : 0 < n → LtB A lo) (hQl : 0 < m → LtB B lo) (p2 : List Pr) (k2 : Nat) (ok : Bool) (hp2 : Hid (cutR pl ea = (p2, ok))) (hk2 : Hid (p2.length = k2)) :
    Calls Tryz.prog 99 #[.agg #[.int .i64 i0, .int .i64 t0, .slice A n c, .slice B m d, .int .i64 l0, .int .i64 l1, .int .i64 l2], .agg #[.int .i64 ex, .int .i64 et, .int .i64 ec, .int .i64 es, .int .i64 ek, .int .i64 ea, .int .i64 eb, .int .i64 eg, .int .i64 eh]] w (RetEff w lo i0 t0 p2 ql l0 l1 l2 ok) := by
  have HP := Lib.hid hP
  have HQ := Lib.hid hQ
  have HA := Lib.hid hA
  have HB := Lib.hid hB
  have hL := Lib.hid hl
  have hR := Lib.hid hr
  clear hP hQ hA hB hl hr
  go_enter Tryz.func99, Tryz.ntmps99
  go_wp2_with fail
  refine calls_named ?_
  rintro v0 hv0
  have f0 : Below w.heap.size w v0 := by rw [hv0]; (repeat' (first | (with_reducible exact Below.refl _ _) | (with_reducible assumption) | (with_reducible refine Below.alloc ?_ ?_ _) | (with_reducible refine Below.drew ?_) | (with_reducible refine Below.setCell ?_ ?_ _) | (with_reducible refine bstep (by assumption) ?_ ?_) | (with_reducible exact Nat.le_refl _) | omega | (simp [*]; done) | (simp [*]; omega)))
  have z0 : w.heap.size + 3 ≤ v0.heap.size := by rw [hv0]; simp [size_set]
  have HP_0 := Lib.hid (HP.out.below f0)
  have HP_lt := Lib.hid (fun hn => HP.out.lt hn)
  have HQ_0 := Lib.hid (HQ.out.below f0)
  have HQ_lt := Lib.hid (fun hn => HQ.out.lt hn)
  have Ha_0 : Hid (Blk v0 w.heap.size 37 #[.int .i64 i0, .int .i64 t0, .slice A n c, .slice B m d, .int .i64 l0, .int .i64 l1, .int .i64 l2]) := by rw [hv0]; exact ((Blk.new_at _ _ _ _ (by simp)).alloc _).alloc _
  have Hb_0 : Hid (Blk v0 (w.heap.size + 1) 43 #[.int .i64 ex, .int .i64 et, .int .i64 ec, .int .i64 es, .int .i64 ek, .int .i64 ea, .int .i64 eb, .int .i64 eg, .int .i64 eh]) := by rw [hv0]; exact (Blk.new_at _ _ _ _ (by simp)).alloc _
  have Hr_0 : Hid (Blk v0 (w.heap.size + 1 + 1) 37 #[.int .i64 0, .int .i64 0, .slice none 0 0, .slice none 0 0, .int .i64 0, .int .i64 0, .int .i64 0]) := by rw [hv0]; exact Blk.new_at _ _ _ _ (by simp)
  clear hv0
  generalize hg2 : w.heap.size + 1 + 1 = g2 at *
  generalize hg1 : w.heap.size + 1 = g1 at *
  have lg1 : w.heap.size < g1 := by omega
  have lg2 : g1 < g2 := by omega
  have lgz : g2 < v0.heap.size := by omega
  have nq1x0 : ¬ g1 = w.heap.size := by omega
  have nq0x1 : ¬ w.heap.size = g1 := by omega
  have nq2x0 : ¬ g2 = w.heap.size := by omega
  have nq0x2 : ¬ w.heap.size = g2 := by omega
  have nq2x1 : ¬ g2 = g1 := by omega
  have nq1x2 : ¬ g1 = g2 := by omega
  clear hg1 hg2
  have lt_a := Ha_0.out.lt
  have r_a0 : v0.cell? ⟨w.heap.size, 0, none⟩ = some (.int .i64 i0) := Ha_0.out.cell 0
  have r_a1 : v0.cell? ⟨w.heap.size, 1, none⟩ = some (.int .i64 t0) := Ha_0.out.cell 1
  have r_a2 : v0.cell? ⟨w.heap.size, 2, none⟩ = some (.slice A n c) := Ha_0.out.cell 2
  have r_a3 : v0.cell? ⟨w.heap.size, 3, none⟩ = some (.slice B m d) := Ha_0.out.cell 3
  have r_a4 : v0.cell? ⟨w.heap.size, 4, none⟩ = some (.int .i64 l0) := Ha_0.out.cell 4
  have r_a5 : v0.cell? ⟨w.heap.size, 5, none⟩ = some (.int .i64 l1) := Ha_0.out.cell 5
  have r_a6 : v0.cell? ⟨w.heap.size, 6, none⟩ = some (.int .i64 l2) := Ha_0.out.cell 6
  have z_a0 := Ha_0.out.frozen 0
  have z_a1 := Ha_0.out.frozen 1
  have z_a2 := Ha_0.out.frozen 2
  have z_a3 := Ha_0.out.frozen 3
  have z_a4 := Ha_0.out.frozen 4
  have z_a5 := Ha_0.out.frozen 5
  have z_a6 := Ha_0.out.frozen 6
  have lt_b := Hb_0.out.lt
  have r_b0 : v0.cell? ⟨g1, 0, none⟩ = some (.int .i64 ex) := Hb_0.out.cell 0
  have r_b1 : v0.cell? ⟨g1, 1, none⟩ = some (.int .i64 et) := Hb_0.out.cell 1
  have r_b2 : v0.cell? ⟨g1, 2, none⟩ = some (.int .i64 ec) := Hb_0.out.cell 2
  have r_b3 : v0.cell? ⟨g1, 3, none⟩ = some (.int .i64 es) := Hb_0.out.cell 3
  have r_b4 : v0.cell? ⟨g1, 4, none⟩ = some (.int .i64 ek) := Hb_0.out.cell 4
  have r_b5 : v0.cell? ⟨g1, 5, none⟩ = some (.int .i64 ea) := Hb_0.out.cell 5
  have r_b6 : v0.cell? ⟨g1, 6, none⟩ = some (.int .i64 eb) := Hb_0.out.cell 6
  have r_b7 : v0.cell? ⟨g1, 7, none⟩ = some (.int .i64 eg) := Hb_0.out.cell 7
  have r_b8 : v0.cell? ⟨g1, 8, none⟩ = some (.int .i64 eh) := Hb_0.out.cell 8
  have lt_r := Hr_0.out.lt
  have r_r0 : v0.cell? ⟨g2, 0, none⟩ = some (.int .i64 0) := Hr_0.out.cell 0
  have r_r1 : v0.cell? ⟨g2, 1, none⟩ = some (.int .i64 0) := Hr_0.out.cell 1
  have r_r2 : v0.cell? ⟨g2, 2, none⟩ = some (.slice none 0 0) := Hr_0.out.cell 2
  have r_r3 : v0.cell? ⟨g2, 3, none⟩ = some (.slice none 0 0) := Hr_0.out.cell 3
  have r_r4 : v0.cell? ⟨g2, 4, none⟩ = some (.int .i64 0) := Hr_0.out.cell 4
  have r_r5 : v0.cell? ⟨g2, 5, none⟩ = some (.int .i64 0) := Hr_0.out.cell 5
  have r_r6 : v0.cell? ⟨g2, 6, none⟩ = some (.int .i64 0) := Hr_0.out.cell 6
  have z_r0 := Hr_0.out.frozen 0
  have z_r1 := Hr_0.out.frozen 1
  have z_r2 := Hr_0.out.frozen 2
  have z_r3 := Hr_0.out.frozen 3
  have z_r4 := Hr_0.out.frozen 4
  have z_r5 := Hr_0.out.frozen 5
  have z_r6 := Hr_0.out.frozen 6
  have cc := cutOutR_any A n c pl ea v0 HP_0.out hL.out hn HA.out
  rw [hp2.out] at cc
  replace cc := cc.mono (fun _ _ h => Lib.hid h)
  have HX : ∀ e w1, RetRowB v0 106 2 (p2, ok).1.length (PR (p2, ok).1) (p2, ok).2 e w1 → RetRowB v0 106 2 k2 (PR p2) ok e w1 := fun e w1 h => by
    have := hk2.out
    subst this
    exact h
  go_wp2_with fail
  refine cc.mono ?_
  rintro e v1 hx
  obtain ⟨A1, c1, rfl, Rx, b1⟩ := HX _ _ hx.out
  clear HX hx
  have f1 := bthen f0 b1
  have z1 := b1.size
  have HP_1 := Lib.hid (HP_0.out.below b1)
  have HQ_1 := Lib.hid (HQ_0.out.below b1)
  have Ha_1 := Lib.hid (Ha_0.out.below b1)
  have Hb_1 := Lib.hid (Hb_0.out.below b1)
  have Hr_1 := Lib.hid (Hr_0.out.below b1)
  clear lt_a r_a0 r_a1 r_a2 r_a3 r_a4 r_a5 r_a6 z_a0 z_a1 z_a2 z_a3 z_a4 z_a5 z_a6 lt_b r_b0 r_b1 r_b2 r_b3 r_b4 r_b5 r_b6 r_b7 r_b8 lt_r r_r0 r_r1 r_r2 r_r3 r_r4 r_r5 r_r6 z_r0 z_r1 z_r2 z_r3 z_r4 z_r5 z_r6
  clear HP_0 HQ_0 Ha_0 Hb_0 Hr_0
  have Hx_1 := Lib.hid Rx
  clear Rx
  clear cc
  have lt_a := Ha_1.out.lt
  have r_a0 : v1.cell? ⟨w.heap.size, 0, none⟩ = some (.int .i64 i0) := Ha_1.out.cell 0
  have r_a1 : v1.cell? ⟨w.heap.size, 1, none⟩ = some (.int .i64 t0) := Ha_1.out.cell 1
  have r_a2 : v1.cell? ⟨w.heap.size, 2, none⟩ = some (.slice A n c) := Ha_1.out.cell 2
  have r_a3 : v1.cell? ⟨w.heap.size, 3, none⟩ = some (.slice B m d) := Ha_1.out.cell 3
  have r_a4 : v1.cell? ⟨w.heap.size, 4, none⟩ = some (.int .i64 l0) := Ha_1.out.cell 4
  have r_a5 : v1.cell? ⟨w.heap.size, 5, none⟩ = some (.int .i64 l1) := Ha_1.out.cell 5
  have r_a6 : v1.cell? ⟨w.heap.size, 6, none⟩ = some (.int .i64 l2) := Ha_1.out.cell 6
  have z_a0 := Ha_1.out.frozen 0
  have z_a1 := Ha_1.out.frozen 1
  have z_a2 := Ha_1.out.frozen 2
  have z_a3 := Ha_1.out.frozen 3
  have z_a4 := Ha_1.out.frozen 4
  have z_a5 := Ha_1.out.frozen 5
  have z_a6 := Ha_1.out.frozen 6
  have lt_b := Hb_1.out.lt
  have r_b0 : v1.cell? ⟨g1, 0, none⟩ = some (.int .i64 ex) := Hb_1.out.cell 0
  have r_b1 : v1.cell? ⟨g1, 1, none⟩ = some (.int .i64 et) := Hb_1.out.cell 1
  have r_b2 : v1.cell? ⟨g1, 2, none⟩ = some (.int .i64 ec) := Hb_1.out.cell 2
  have r_b3 : v1.cell? ⟨g1, 3, none⟩ = some (.int .i64 es) := Hb_1.out.cell 3
  have r_b4 : v1.cell? ⟨g1, 4, none⟩ = some (.int .i64 ek) := Hb_1.out.cell 4
  have r_b5 : v1.cell? ⟨g1, 5, none⟩ = some (.int .i64 ea) := Hb_1.out.cell 5
  have r_b6 : v1.cell? ⟨g1, 6, none⟩ = some (.int .i64 eb) := Hb_1.out.cell 6
  have r_b7 : v1.cell? ⟨g1, 7, none⟩ = some (.int .i64 eg) := Hb_1.out.cell 7
  have r_b8 : v1.cell? ⟨g1, 8, none⟩ = some (.int .i64 eh) := Hb_1.out.cell 8
  have lt_r := Hr_1.out.lt
  have r_r0 : v1.cell? ⟨g2, 0, none⟩ = some (.int .i64 0) := Hr_1.out.cell 0
  have r_r1 : v1.cell? ⟨g2, 1, none⟩ = some (.int .i64 0) := Hr_1.out.cell 1
  have r_r2 : v1.cell? ⟨g2, 2, none⟩ = some (.slice none 0 0) := Hr_1.out.cell 2
  have r_r3 : v1.cell? ⟨g2, 3, none⟩ = some (.slice none 0 0) := Hr_1.out.cell 3
  have r_r4 : v1.cell? ⟨g2, 4, none⟩ = some (.int .i64 0) := Hr_1.out.cell 4
  have r_r5 : v1.cell? ⟨g2, 5, none⟩ = some (.int .i64 0) := Hr_1.out.cell 5
  have r_r6 : v1.cell? ⟨g2, 6, none⟩ = some (.int .i64 0) := Hr_1.out.cell 6
  have z_r0 := Hr_1.out.frozen 0
  have z_r1 := Hr_1.out.frozen 1
  have z_r2 := Hr_1.out.frozen 2
  have z_r3 := Hr_1.out.frozen 3
  have z_r4 := Hr_1.out.frozen 4
  have z_r5 := Hr_1.out.frozen 5
  have z_r6 := Hr_1.out.frozen 6
  go_wp21
  refine bodyPost_ret (v := .tuple #[.agg #[.int .i64 i0, .int .i64 t0, .slice A1 k2 c1, .slice B m d, .int .i64 l0, .int .i64 l1, .int .i64 l2], .bool ok]) (by simp [results, Tryz.results99, go_sem, *]) rfl ?_
  exact RetEff.of (by (repeat' (first | (with_reducible exact Below.refl _ _) | (with_reducible assumption) | (with_reducible refine Below.alloc ?_ ?_ _) | (with_reducible refine Below.drew ?_) | (with_reducible refine Below.setCell ?_ ?_ _) | (with_reducible refine bstep (by assumption) ?_ ?_) | (with_reducible exact Nat.le_refl _) | omega | (simp [*]; done) | (simp [*]; omega)))) rfl rfl (((((((((Hx_1.out).far (p := ⟨w.heap.size, 2, none⟩) (fun a ha => by have := (Hx_1.out).ge a ha; show a.block ≠ w.heap.size; omega) _).far (p := ⟨g2, 0, none⟩) (fun a ha => by have := (Hx_1.out).ge a ha; show a.block ≠ g2; omega) _).far (p := ⟨g2, 1, none⟩) (fun a ha => by have := (Hx_1.out).ge a ha; show a.block ≠ g2; omega) _).far (p := ⟨g2, 2, none⟩) (fun a ha => by have := (Hx_1.out).ge a ha; show a.block ≠ g2; omega) _).far (p := ⟨g2, 3, none⟩) (fun a ha => by have := (Hx_1.out).ge a ha; show a.block ≠ g2; omega) _).far (p := ⟨g2, 4, none⟩) (fun a ha => by have := (Hx_1.out).ge a ha; show a.block ≠ g2; omega) _).far (p := ⟨g2, 5, none⟩) (fun a ha => by have := (Hx_1.out).ge a ha; show a.block ≠ g2; omega) _).far (p := ⟨g2, 6, none⟩) (fun a ha => by have := (Hx_1.out).ge a ha; show a.block ≠ g2; omega) _).sl hk2.out (row_nil Hx_1.out) (((((((((HQ_1.out).far (p := ⟨w.heap.size, 2, none⟩) (fun hn a ha => by have := HQ_lt.out hn a ha; show a.block ≠ w.heap.size; omega) _).far (p := ⟨g2, 0, none⟩) (fun hn a ha => by have := HQ_lt.out hn a ha; show a.block ≠ g2; omega) _).far (p := ⟨g2, 1, none⟩) (fun hn a ha => by have := HQ_lt.out hn a ha; show a.block ≠ g2; omega) _).far (p := ⟨g2, 2, none⟩) (fun hn a ha => by have := HQ_lt.out hn a ha; show a.block ≠ g2; omega) _).far (p := ⟨g2, 3, none⟩) (fun hn a ha => by have := HQ_lt.out hn a ha; show a.block ≠ g2; omega) _).far (p := ⟨g2, 4, none⟩) (fun hn a ha => by have := HQ_lt.out hn a ha; show a.block ≠ g2; omega) _).far (p := ⟨g2, 5, none⟩) (fun hn a ha => by have := HQ_lt.out hn a ha; show a.block ≠ g2; omega) _).far (p := ⟨g2, 6, none⟩) (fun hn a ha => by have := HQ_lt.out hn a ha; show a.block ≠ g2; omega) _) hR.out HB.out (fun _ a ha => .inr (by have := (Hx_1.out).ge a ha; omega)) (fun h0 a ha => .inl (hQl h0 a ha))
theorem eff2_any (A : Option Addr) (n c : Nat) (B : Option Addr) (m d : Nat) (i0 t0 l0 l1 l2 : Int) (pl : List Pr) (ql : List Jb) (ex et ec es ek ea eb eg eh : Int) (w : World) (hP : Sl w 2 A n (PR pl)) (hQ : Sl w 5 B m (JB ql)) (hl : pl.length = n) (hr : ql.length = m) (hn : n ≤ maxLen) (hm : m ≤ maxLen) (hA : A = none → n = 0 ∧ c = 0) (hB : B = none → m = 0 ∧ d = 0) (lo : Nat) (hPl : 0 < n → LtB A lo) (hQl : 0 < m → LtB B lo) :
    Calls Tryz.prog 99 #[.agg #[.int .i64 i0, .int .i64 t0, .slice A n c, .slice B m d, .int .i64 l0, .int .i64 l1, .int .i64 l2], .agg #[.int .i64 ex, .int .i64 et, .int .i64 ec, .int .i64 es, .int .i64 ek, .int .i64 ea, .int .i64 eb, .int .i64 eg, .int .i64 eh]] w (RetEff w lo i0 t0 (cutR pl ea).1 ql l0 l1 l2 (cutR pl ea).2) :=
  eff2_g A n c B m d i0 t0 l0 l1 l2 pl ql ex et ec es ek ea eb eg eh w hP hQ hl hr hn hm hA hB lo hPl hQl _ _ _ (Lib.hid rfl) (Lib.hid rfl)
set_option maxRecDepth 100000 in
set_option maxHeartbeats 4000000 in
theorem eff3_g (A : Option Addr) (n c : Nat) (B : Option Addr) (m d : Nat) (i0 t0 l0 l1 l2 : Int) (pl : List Pr) (ql : List Jb) (ex et ec es ek ea eb eg eh : Int) (w : World) (hP : Sl w 2 A n (PR pl)) (hQ : Sl w 5 B m (JB ql)) (hl : pl.length = n) (hr : ql.length = m) (hn : n ≤ maxLen) (hm : m ≤ maxLen) (hA : A = none → n = 0 ∧ c = 0) (hB : B = none → m = 0 ∧ d = 0) (lo : Nat) (hPl : 0 < n → LtB A lo) (hQl : 0 < m → LtB B lo) (q2 : List Jb) (k2 : Nat) (ok : Bool) (hq2 : Hid (addR ql ⟨ea, eb, eg, eh, 0⟩ = (q2, ok))) (hk2 : Hid (q2.length = k2)) :
    Calls Tryz.prog 101 #[.agg #[.int .i64 i0, .int .i64 t0, .slice A n c, .slice B m d, .int .i64 l0, .int .i64 l1, .int .i64 l2], .agg #[.int .i64 ex, .int .i64 et, .int .i64 ec, .int .i64 es, .int .i64 ek, .int .i64 ea, .int .i64 eb, .int .i64 eg, .int .i64 eh]] w (RetEff w lo i0 t0 pl q2 l0 l1 l2 ok) := by
  have HP := Lib.hid hP
  have HQ := Lib.hid hQ
  have HA := Lib.hid hA
  have HB := Lib.hid hB
  have hL := Lib.hid hl
  have hR := Lib.hid hr
  clear hP hQ hA hB hl hr
  go_enter Tryz.func101, Tryz.ntmps101
  go_wp2_with fail
  refine calls_named ?_
  rintro v0 hv0
  have f0 : Below w.heap.size w v0 := by rw [hv0]; (repeat' (first | (with_reducible exact Below.refl _ _) | (with_reducible assumption) | (with_reducible refine Below.alloc ?_ ?_ _) | (with_reducible refine Below.drew ?_) | (with_reducible refine Below.setCell ?_ ?_ _) | (with_reducible refine bstep (by assumption) ?_ ?_) | (with_reducible exact Nat.le_refl _) | omega | (simp [*]; done) | (simp [*]; omega)))
  have z0 : w.heap.size + 3 ≤ v0.heap.size := by rw [hv0]; simp [size_set]
  have HP_0 := Lib.hid (HP.out.below f0)
  have HP_lt := Lib.hid (fun hn => HP.out.lt hn)
  have HQ_0 := Lib.hid (HQ.out.below f0)
  have HQ_lt := Lib.hid (fun hn => HQ.out.lt hn)
  have Ha_0 : Hid (Blk v0 w.heap.size 37 #[.int .i64 i0, .int .i64 t0, .slice A n c, .slice B m d, .int .i64 l0, .int .i64 l1, .int .i64 l2]) := by rw [hv0]; exact ((Blk.new_at _ _ _ _ (by simp)).alloc _).alloc _
  have Hb_0 : Hid (Blk v0 (w.heap.size + 1) 43 #[.int .i64 ex, .int .i64 et, .int .i64 ec, .int .i64 es, .int .i64 ek, .int .i64 ea, .int .i64 eb, .int .i64 eg, .int .i64 eh]) := by rw [hv0]; exact (Blk.new_at _ _ _ _ (by simp)).alloc _
  have Hr_0 : Hid (Blk v0 (w.heap.size + 1 + 1) 37 #[.int .i64 0, .int .i64 0, .slice none 0 0, .slice none 0 0, .int .i64 0, .int .i64 0, .int .i64 0]) := by rw [hv0]; exact Blk.new_at _ _ _ _ (by simp)
  clear hv0
  generalize hg2 : w.heap.size + 1 + 1 = g2 at *
  generalize hg1 : w.heap.size + 1 = g1 at *
  have lg1 : w.heap.size < g1 := by omega
  have lg2 : g1 < g2 := by omega
  have lgz : g2 < v0.heap.size := by omega
  have nq1x0 : ¬ g1 = w.heap.size := by omega
  have nq0x1 : ¬ w.heap.size = g1 := by omega
  have nq2x0 : ¬ g2 = w.heap.size := by omega
  have nq0x2 : ¬ w.heap.size = g2 := by omega
  have nq2x1 : ¬ g2 = g1 := by omega
  have nq1x2 : ¬ g1 = g2 := by omega
  clear hg1 hg2
  have lt_a := Ha_0.out.lt
  have r_a0 : v0.cell? ⟨w.heap.size, 0, none⟩ = some (.int .i64 i0) := Ha_0.out.cell 0
  have r_a1 : v0.cell? ⟨w.heap.size, 1, none⟩ = some (.int .i64 t0) := Ha_0.out.cell 1
  have r_a2 : v0.cell? ⟨w.heap.size, 2, none⟩ = some (.slice A n c) := Ha_0.out.cell 2
  have r_a3 : v0.cell? ⟨w.heap.size, 3, none⟩ = some (.slice B m d) := Ha_0.out.cell 3
  have r_a4 : v0.cell? ⟨w.heap.size, 4, none⟩ = some (.int .i64 l0) := Ha_0.out.cell 4
  have r_a5 : v0.cell? ⟨w.heap.size, 5, none⟩ = some (.int .i64 l1) := Ha_0.out.cell 5
  have r_a6 : v0.cell? ⟨w.heap.size, 6, none⟩ = some (.int .i64 l2) := Ha_0.out.cell 6
  have z_a0 := Ha_0.out.frozen 0
  have z_a1 := Ha_0.out.frozen 1
  have z_a2 := Ha_0.out.frozen 2
  have z_a3 := Ha_0.out.frozen 3
  have z_a4 := Ha_0.out.frozen 4
  have z_a5 := Ha_0.out.frozen 5
  have z_a6 := Ha_0.out.frozen 6
  have lt_b := Hb_0.out.lt
  have r_b0 : v0.cell? ⟨g1, 0, none⟩ = some (.int .i64 ex) := Hb_0.out.cell 0
  have r_b1 : v0.cell? ⟨g1, 1, none⟩ = some (.int .i64 et) := Hb_0.out.cell 1
  have r_b2 : v0.cell? ⟨g1, 2, none⟩ = some (.int .i64 ec) := Hb_0.out.cell 2
  have r_b3 : v0.cell? ⟨g1, 3, none⟩ = some (.int .i64 es) := Hb_0.out.cell 3
  have r_b4 : v0.cell? ⟨g1, 4, none⟩ = some (.int .i64 ek) := Hb_0.out.cell 4
  have r_b5 : v0.cell? ⟨g1, 5, none⟩ = some (.int .i64 ea) := Hb_0.out.cell 5
  have r_b6 : v0.cell? ⟨g1, 6, none⟩ = some (.int .i64 eb) := Hb_0.out.cell 6
  have r_b7 : v0.cell? ⟨g1, 7, none⟩ = some (.int .i64 eg) := Hb_0.out.cell 7
  have r_b8 : v0.cell? ⟨g1, 8, none⟩ = some (.int .i64 eh) := Hb_0.out.cell 8
  have lt_r := Hr_0.out.lt
  have r_r0 : v0.cell? ⟨g2, 0, none⟩ = some (.int .i64 0) := Hr_0.out.cell 0
  have r_r1 : v0.cell? ⟨g2, 1, none⟩ = some (.int .i64 0) := Hr_0.out.cell 1
  have r_r2 : v0.cell? ⟨g2, 2, none⟩ = some (.slice none 0 0) := Hr_0.out.cell 2
  have r_r3 : v0.cell? ⟨g2, 3, none⟩ = some (.slice none 0 0) := Hr_0.out.cell 3
  have r_r4 : v0.cell? ⟨g2, 4, none⟩ = some (.int .i64 0) := Hr_0.out.cell 4
  have r_r5 : v0.cell? ⟨g2, 5, none⟩ = some (.int .i64 0) := Hr_0.out.cell 5
  have r_r6 : v0.cell? ⟨g2, 6, none⟩ = some (.int .i64 0) := Hr_0.out.cell 6
  have z_r0 := Hr_0.out.frozen 0
  have z_r1 := Hr_0.out.frozen 1
  have z_r2 := Hr_0.out.frozen 2
  have z_r3 := Hr_0.out.frozen 3
  have z_r4 := Hr_0.out.frozen 4
  have z_r5 := Hr_0.out.frozen 5
  have z_r6 := Hr_0.out.frozen 6
  have cc := addedRI_any B m d ql ea eb eg eh 0 v0 HQ_0.out hR.out hm HB.out
  rw [hq2.out] at cc
  replace cc := cc.mono (fun _ _ h => Lib.hid h)
  have HX : ∀ e w1, RetRowB v0 71 5 (q2, ok).1.length (JB (q2, ok).1) (q2, ok).2 e w1 → RetRowB v0 71 5 k2 (JB q2) ok e w1 := fun e w1 h => by
    have := hk2.out
    subst this
    exact h
  go_wp2_with fail
  refine cc.mono ?_
  rintro e v1 hx
  obtain ⟨B1, d1, rfl, Ry, b1⟩ := HX _ _ hx.out
  clear HX hx
  have f1 := bthen f0 b1
  have z1 := b1.size
  have HP_1 := Lib.hid (HP_0.out.below b1)
  have HQ_1 := Lib.hid (HQ_0.out.below b1)
  have Ha_1 := Lib.hid (Ha_0.out.below b1)
  have Hb_1 := Lib.hid (Hb_0.out.below b1)
  have Hr_1 := Lib.hid (Hr_0.out.below b1)
  clear lt_a r_a0 r_a1 r_a2 r_a3 r_a4 r_a5 r_a6 z_a0 z_a1 z_a2 z_a3 z_a4 z_a5 z_a6 lt_b r_b0 r_b1 r_b2 r_b3 r_b4 r_b5 r_b6 r_b7 r_b8 lt_r r_r0 r_r1 r_r2 r_r3 r_r4 r_r5 r_r6 z_r0 z_r1 z_r2 z_r3 z_r4 z_r5 z_r6
  clear HP_0 HQ_0 Ha_0 Hb_0 Hr_0
  have Hy_1 := Lib.hid Ry
  clear Ry
  clear cc
  have lt_a := Ha_1.out.lt
  have r_a0 : v1.cell? ⟨w.heap.size, 0, none⟩ = some (.int .i64 i0) := Ha_1.out.cell 0
  have r_a1 : v1.cell? ⟨w.heap.size, 1, none⟩ = some (.int .i64 t0) := Ha_1.out.cell 1
  have r_a2 : v1.cell? ⟨w.heap.size, 2, none⟩ = some (.slice A n c) := Ha_1.out.cell 2
  have r_a3 : v1.cell? ⟨w.heap.size, 3, none⟩ = some (.slice B m d) := Ha_1.out.cell 3
  have r_a4 : v1.cell? ⟨w.heap.size, 4, none⟩ = some (.int .i64 l0) := Ha_1.out.cell 4
  have r_a5 : v1.cell? ⟨w.heap.size, 5, none⟩ = some (.int .i64 l1) := Ha_1.out.cell 5
  have r_a6 : v1.cell? ⟨w.heap.size, 6, none⟩ = some (.int .i64 l2) := Ha_1.out.cell 6
  have z_a0 := Ha_1.out.frozen 0
  have z_a1 := Ha_1.out.frozen 1
  have z_a2 := Ha_1.out.frozen 2
  have z_a3 := Ha_1.out.frozen 3
  have z_a4 := Ha_1.out.frozen 4
  have z_a5 := Ha_1.out.frozen 5
  have z_a6 := Ha_1.out.frozen 6
  have lt_b := Hb_1.out.lt
  have r_b0 : v1.cell? ⟨g1, 0, none⟩ = some (.int .i64 ex) := Hb_1.out.cell 0
  have r_b1 : v1.cell? ⟨g1, 1, none⟩ = some (.int .i64 et) := Hb_1.out.cell 1
  have r_b2 : v1.cell? ⟨g1, 2, none⟩ = some (.int .i64 ec) := Hb_1.out.cell 2
  have r_b3 : v1.cell? ⟨g1, 3, none⟩ = some (.int .i64 es) := Hb_1.out.cell 3
  have r_b4 : v1.cell? ⟨g1, 4, none⟩ = some (.int .i64 ek) := Hb_1.out.cell 4
  have r_b5 : v1.cell? ⟨g1, 5, none⟩ = some (.int .i64 ea) := Hb_1.out.cell 5
  have r_b6 : v1.cell? ⟨g1, 6, none⟩ = some (.int .i64 eb) := Hb_1.out.cell 6
  have r_b7 : v1.cell? ⟨g1, 7, none⟩ = some (.int .i64 eg) := Hb_1.out.cell 7
  have r_b8 : v1.cell? ⟨g1, 8, none⟩ = some (.int .i64 eh) := Hb_1.out.cell 8
  have lt_r := Hr_1.out.lt
  have r_r0 : v1.cell? ⟨g2, 0, none⟩ = some (.int .i64 0) := Hr_1.out.cell 0
  have r_r1 : v1.cell? ⟨g2, 1, none⟩ = some (.int .i64 0) := Hr_1.out.cell 1
  have r_r2 : v1.cell? ⟨g2, 2, none⟩ = some (.slice none 0 0) := Hr_1.out.cell 2
  have r_r3 : v1.cell? ⟨g2, 3, none⟩ = some (.slice none 0 0) := Hr_1.out.cell 3
  have r_r4 : v1.cell? ⟨g2, 4, none⟩ = some (.int .i64 0) := Hr_1.out.cell 4
  have r_r5 : v1.cell? ⟨g2, 5, none⟩ = some (.int .i64 0) := Hr_1.out.cell 5
  have r_r6 : v1.cell? ⟨g2, 6, none⟩ = some (.int .i64 0) := Hr_1.out.cell 6
  have z_r0 := Hr_1.out.frozen 0
  have z_r1 := Hr_1.out.frozen 1
  have z_r2 := Hr_1.out.frozen 2
  have z_r3 := Hr_1.out.frozen 3
  have z_r4 := Hr_1.out.frozen 4
  have z_r5 := Hr_1.out.frozen 5
  have z_r6 := Hr_1.out.frozen 6
  go_wp21
  refine bodyPost_ret (v := .tuple #[.agg #[.int .i64 i0, .int .i64 t0, .slice A n c, .slice B1 k2 d1, .int .i64 l0, .int .i64 l1, .int .i64 l2], .bool ok]) (by simp [results, Tryz.results101, go_sem, *]) rfl ?_
  exact RetEff.of (by (repeat' (first | (with_reducible exact Below.refl _ _) | (with_reducible assumption) | (with_reducible refine Below.alloc ?_ ?_ _) | (with_reducible refine Below.drew ?_) | (with_reducible refine Below.setCell ?_ ?_ _) | (with_reducible refine bstep (by assumption) ?_ ?_) | (with_reducible exact Nat.le_refl _) | omega | (simp [*]; done) | (simp [*]; omega)))) rfl rfl (((((((((HP_1.out).far (p := ⟨w.heap.size, 3, none⟩) (fun hn a ha => by have := HP_lt.out hn a ha; show a.block ≠ w.heap.size; omega) _).far (p := ⟨g2, 0, none⟩) (fun hn a ha => by have := HP_lt.out hn a ha; show a.block ≠ g2; omega) _).far (p := ⟨g2, 1, none⟩) (fun hn a ha => by have := HP_lt.out hn a ha; show a.block ≠ g2; omega) _).far (p := ⟨g2, 2, none⟩) (fun hn a ha => by have := HP_lt.out hn a ha; show a.block ≠ g2; omega) _).far (p := ⟨g2, 3, none⟩) (fun hn a ha => by have := HP_lt.out hn a ha; show a.block ≠ g2; omega) _).far (p := ⟨g2, 4, none⟩) (fun hn a ha => by have := HP_lt.out hn a ha; show a.block ≠ g2; omega) _).far (p := ⟨g2, 5, none⟩) (fun hn a ha => by have := HP_lt.out hn a ha; show a.block ≠ g2; omega) _).far (p := ⟨g2, 6, none⟩) (fun hn a ha => by have := HP_lt.out hn a ha; show a.block ≠ g2; omega) _) hL.out HA.out (((((((((Hy_1.out).far (p := ⟨w.heap.size, 3, none⟩) (fun a ha => by have := (Hy_1.out).ge a ha; show a.block ≠ w.heap.size; omega) _).far (p := ⟨g2, 0, none⟩) (fun a ha => by have := (Hy_1.out).ge a ha; show a.block ≠ g2; omega) _).far (p := ⟨g2, 1, none⟩) (fun a ha => by have := (Hy_1.out).ge a ha; show a.block ≠ g2; omega) _).far (p := ⟨g2, 2, none⟩) (fun a ha => by have := (Hy_1.out).ge a ha; show a.block ≠ g2; omega) _).far (p := ⟨g2, 3, none⟩) (fun a ha => by have := (Hy_1.out).ge a ha; show a.block ≠ g2; omega) _).far (p := ⟨g2, 4, none⟩) (fun a ha => by have := (Hy_1.out).ge a ha; show a.block ≠ g2; omega) _).far (p := ⟨g2, 5, none⟩) (fun a ha => by have := (Hy_1.out).ge a ha; show a.block ≠ g2; omega) _).far (p := ⟨g2, 6, none⟩) (fun a ha => by have := (Hy_1.out).ge a ha; show a.block ≠ g2; omega) _).sl hk2.out (row_nil Hy_1.out) (fun h0 a ha => .inl (hPl h0 a ha)) (fun _ a ha => .inr (by have := (Hy_1.out).ge a ha; omega))
theorem eff3_any (A : Option Addr) (n c : Nat) (B : Option Addr) (m d : Nat) (i0 t0 l0 l1 l2 : Int) (pl : List Pr) (ql : List Jb) (ex et ec es ek ea eb eg eh : Int) (w : World) (hP : Sl w 2 A n (PR pl)) (hQ : Sl w 5 B m (JB ql)) (hl : pl.length = n) (hr : ql.length = m) (hn : n ≤ maxLen) (hm : m ≤ maxLen) (hA : A = none → n = 0 ∧ c = 0) (hB : B = none → m = 0 ∧ d = 0) (lo : Nat) (hPl : 0 < n → LtB A lo) (hQl : 0 < m → LtB B lo) :
    Calls Tryz.prog 101 #[.agg #[.int .i64 i0, .int .i64 t0, .slice A n c, .slice B m d, .int .i64 l0, .int .i64 l1, .int .i64 l2], .agg #[.int .i64 ex, .int .i64 et, .int .i64 ec, .int .i64 es, .int .i64 ek, .int .i64 ea, .int .i64 eb, .int .i64 eg, .int .i64 eh]] w (RetEff w lo i0 t0 pl (addR ql ⟨ea, eb, eg, eh, 0⟩).1 l0 l1 l2 (addR ql ⟨ea, eb, eg, eh, 0⟩).2) :=
  eff3_g A n c B m d i0 t0 l0 l1 l2 pl ql ex et ec es ek ea eb eg eh w hP hQ hl hr hn hm hA hB lo hPl hQl _ _ _ (Lib.hid rfl) (Lib.hid rfl)
set_option maxRecDepth 100000 in
set_option maxHeartbeats 4000000 in
theorem eff5_g (A : Option Addr) (n c : Nat) (B : Option Addr) (m d : Nat) (i0 t0 l0 l1 l2 : Int) (pl : List Pr) (ql : List Jb) (ex et ec es ek ea eb eg eh : Int) (w : World) (hP : Sl w 2 A n (PR pl)) (hQ : Sl w 5 B m (JB ql)) (hl : pl.length = n) (hr : ql.length = m) (hn : n ≤ maxLen) (hm : m ≤ maxLen) (hA : A = none → n = 0 ∧ c = 0) (hB : B = none → m = 0 ∧ d = 0) (lo : Nat) (hPl : 0 < n → LtB A lo) (hQl : 0 < m → LtB B lo) (h2 e2 u2 : Int) (ok : Bool) (hg2 : Hid (grantL l0 l1 l2 ec et ea = ((h2, e2, u2), ok))) :
    Calls Tryz.prog 107 #[.agg #[.int .i64 i0, .int .i64 t0, .slice A n c, .slice B m d, .int .i64 l0, .int .i64 l1, .int .i64 l2], .agg #[.int .i64 ex, .int .i64 et, .int .i64 ec, .int .i64 es, .int .i64 ek, .int .i64 ea, .int .i64 eb, .int .i64 eg, .int .i64 eh]] w (RetEff w lo i0 t0 pl ql h2 e2 u2 ok) := by
  have HP := Lib.hid hP
  have HQ := Lib.hid hQ
  have HA := Lib.hid hA
  have HB := Lib.hid hB
  have hL := Lib.hid hl
  have hR := Lib.hid hr
  clear hP hQ hA hB hl hr
  go_enter Tryz.func107, Tryz.ntmps107
  go_wp2_with fail
  refine calls_named ?_
  rintro v0 hv0
  have f0 : Below w.heap.size w v0 := by rw [hv0]; (repeat' (first | (with_reducible exact Below.refl _ _) | (with_reducible assumption) | (with_reducible refine Below.alloc ?_ ?_ _) | (with_reducible refine Below.drew ?_) | (with_reducible refine Below.setCell ?_ ?_ _) | (with_reducible refine bstep (by assumption) ?_ ?_) | (with_reducible exact Nat.le_refl _) | omega | (simp [*]; done) | (simp [*]; omega)))
  have z0 : w.heap.size + 3 ≤ v0.heap.size := by rw [hv0]; simp [size_set]
  have HP_0 := Lib.hid (HP.out.below f0)
  have HP_lt := Lib.hid (fun hn => HP.out.lt hn)
  have HQ_0 := Lib.hid (HQ.out.below f0)
  have HQ_lt := Lib.hid (fun hn => HQ.out.lt hn)
  have Ha_0 : Hid (Blk v0 w.heap.size 37 #[.int .i64 i0, .int .i64 t0, .slice A n c, .slice B m d, .int .i64 l0, .int .i64 l1, .int .i64 l2]) := by rw [hv0]; exact ((Blk.new_at _ _ _ _ (by simp)).alloc _).alloc _
  have Hb_0 : Hid (Blk v0 (w.heap.size + 1) 43 #[.int .i64 ex, .int .i64 et, .int .i64 ec, .int .i64 es, .int .i64 ek, .int .i64 ea, .int .i64 eb, .int .i64 eg, .int .i64 eh]) := by rw [hv0]; exact (Blk.new_at _ _ _ _ (by simp)).alloc _
  have Hr_0 : Hid (Blk v0 (w.heap.size + 1 + 1) 37 #[.int .i64 0, .int .i64 0, .slice none 0 0, .slice none 0 0, .int .i64 0, .int .i64 0, .int .i64 0]) := by rw [hv0]; exact Blk.new_at _ _ _ _ (by simp)
  clear hv0
  generalize hg2 : w.heap.size + 1 + 1 = g2 at *
  generalize hg1 : w.heap.size + 1 = g1 at *
  have lg1 : w.heap.size < g1 := by omega
  have lg2 : g1 < g2 := by omega
  have lgz : g2 < v0.heap.size := by omega
  have nq1x0 : ¬ g1 = w.heap.size := by omega
  have nq0x1 : ¬ w.heap.size = g1 := by omega
  have nq2x0 : ¬ g2 = w.heap.size := by omega
  have nq0x2 : ¬ w.heap.size = g2 := by omega
  have nq2x1 : ¬ g2 = g1 := by omega
  have nq1x2 : ¬ g1 = g2 := by omega
  clear hg1 hg2
  have lt_a := Ha_0.out.lt
  have r_a0 : v0.cell? ⟨w.heap.size, 0, none⟩ = some (.int .i64 i0) := Ha_0.out.cell 0
  have r_a1 : v0.cell? ⟨w.heap.size, 1, none⟩ = some (.int .i64 t0) := Ha_0.out.cell 1
  have r_a2 : v0.cell? ⟨w.heap.size, 2, none⟩ = some (.slice A n c) := Ha_0.out.cell 2
  have r_a3 : v0.cell? ⟨w.heap.size, 3, none⟩ = some (.slice B m d) := Ha_0.out.cell 3
  have r_a4 : v0.cell? ⟨w.heap.size, 4, none⟩ = some (.int .i64 l0) := Ha_0.out.cell 4
  have r_a5 : v0.cell? ⟨w.heap.size, 5, none⟩ = some (.int .i64 l1) := Ha_0.out.cell 5
  have r_a6 : v0.cell? ⟨w.heap.size, 6, none⟩ = some (.int .i64 l2) := Ha_0.out.cell 6
  have z_a0 := Ha_0.out.frozen 0
  have z_a1 := Ha_0.out.frozen 1
  have z_a2 := Ha_0.out.frozen 2
  have z_a3 := Ha_0.out.frozen 3
  have z_a4 := Ha_0.out.frozen 4
  have z_a5 := Ha_0.out.frozen 5
  have z_a6 := Ha_0.out.frozen 6
  have lt_b := Hb_0.out.lt
  have r_b0 : v0.cell? ⟨g1, 0, none⟩ = some (.int .i64 ex) := Hb_0.out.cell 0
  have r_b1 : v0.cell? ⟨g1, 1, none⟩ = some (.int .i64 et) := Hb_0.out.cell 1
  have r_b2 : v0.cell? ⟨g1, 2, none⟩ = some (.int .i64 ec) := Hb_0.out.cell 2
  have r_b3 : v0.cell? ⟨g1, 3, none⟩ = some (.int .i64 es) := Hb_0.out.cell 3
  have r_b4 : v0.cell? ⟨g1, 4, none⟩ = some (.int .i64 ek) := Hb_0.out.cell 4
  have r_b5 : v0.cell? ⟨g1, 5, none⟩ = some (.int .i64 ea) := Hb_0.out.cell 5
  have r_b6 : v0.cell? ⟨g1, 6, none⟩ = some (.int .i64 eb) := Hb_0.out.cell 6
  have r_b7 : v0.cell? ⟨g1, 7, none⟩ = some (.int .i64 eg) := Hb_0.out.cell 7
  have r_b8 : v0.cell? ⟨g1, 8, none⟩ = some (.int .i64 eh) := Hb_0.out.cell 8
  have lt_r := Hr_0.out.lt
  have r_r0 : v0.cell? ⟨g2, 0, none⟩ = some (.int .i64 0) := Hr_0.out.cell 0
  have r_r1 : v0.cell? ⟨g2, 1, none⟩ = some (.int .i64 0) := Hr_0.out.cell 1
  have r_r2 : v0.cell? ⟨g2, 2, none⟩ = some (.slice none 0 0) := Hr_0.out.cell 2
  have r_r3 : v0.cell? ⟨g2, 3, none⟩ = some (.slice none 0 0) := Hr_0.out.cell 3
  have r_r4 : v0.cell? ⟨g2, 4, none⟩ = some (.int .i64 0) := Hr_0.out.cell 4
  have r_r5 : v0.cell? ⟨g2, 5, none⟩ = some (.int .i64 0) := Hr_0.out.cell 5
  have r_r6 : v0.cell? ⟨g2, 6, none⟩ = some (.int .i64 0) := Hr_0.out.cell 6
  have z_r0 := Hr_0.out.frozen 0
  have z_r1 := Hr_0.out.frozen 1
  have z_r2 := Hr_0.out.frozen 2
  have z_r3 := Hr_0.out.frozen 3
  have z_r4 := Hr_0.out.frozen 4
  have z_r5 := Hr_0.out.frozen 5
  have z_r6 := Hr_0.out.frozen 6
  have cc := Granted_any l0 l1 l2 ec et ea v0
  rw [hg2.out] at cc
  replace cc := cc.mono (fun _ _ h => Lib.hid h)
  have HX : ∀ e w1, RetGrant v0 ((h2, e2, u2), ok) e w1 → e = .returned (.tuple #[.agg #[.int .i64 h2, .int .i64 e2, .int .i64 u2], .bool ok]) ∧ Below v0.heap.size v0 w1 := fun e w1 h => h
  go_wp2_with fail
  refine cc.mono ?_
  rintro e v1 hx
  obtain ⟨rfl, b1⟩ := HX _ _ hx.out
  clear HX hx
  have f1 := bthen f0 b1
  have z1 := b1.size
  have HP_1 := Lib.hid (HP_0.out.below b1)
  have HQ_1 := Lib.hid (HQ_0.out.below b1)
  have Ha_1 := Lib.hid (Ha_0.out.below b1)
  have Hb_1 := Lib.hid (Hb_0.out.below b1)
  have Hr_1 := Lib.hid (Hr_0.out.below b1)
  clear lt_a r_a0 r_a1 r_a2 r_a3 r_a4 r_a5 r_a6 z_a0 z_a1 z_a2 z_a3 z_a4 z_a5 z_a6 lt_b r_b0 r_b1 r_b2 r_b3 r_b4 r_b5 r_b6 r_b7 r_b8 lt_r r_r0 r_r1 r_r2 r_r3 r_r4 r_r5 r_r6 z_r0 z_r1 z_r2 z_r3 z_r4 z_r5 z_r6
  clear HP_0 HQ_0 Ha_0 Hb_0 Hr_0
  clear cc
  have lt_a := Ha_1.out.lt
  have r_a0 : v1.cell? ⟨w.heap.size, 0, none⟩ = some (.int .i64 i0) := Ha_1.out.cell 0
  have r_a1 : v1.cell? ⟨w.heap.size, 1, none⟩ = some (.int .i64 t0) := Ha_1.out.cell 1
  have r_a2 : v1.cell? ⟨w.heap.size, 2, none⟩ = some (.slice A n c) := Ha_1.out.cell 2
  have r_a3 : v1.cell? ⟨w.heap.size, 3, none⟩ = some (.slice B m d) := Ha_1.out.cell 3
  have r_a4 : v1.cell? ⟨w.heap.size, 4, none⟩ = some (.int .i64 l0) := Ha_1.out.cell 4
  have r_a5 : v1.cell? ⟨w.heap.size, 5, none⟩ = some (.int .i64 l1) := Ha_1.out.cell 5
  have r_a6 : v1.cell? ⟨w.heap.size, 6, none⟩ = some (.int .i64 l2) := Ha_1.out.cell 6
  have z_a0 := Ha_1.out.frozen 0
  have z_a1 := Ha_1.out.frozen 1
  have z_a2 := Ha_1.out.frozen 2
  have z_a3 := Ha_1.out.frozen 3
  have z_a4 := Ha_1.out.frozen 4
  have z_a5 := Ha_1.out.frozen 5
  have z_a6 := Ha_1.out.frozen 6
  have lt_b := Hb_1.out.lt
  have r_b0 : v1.cell? ⟨g1, 0, none⟩ = some (.int .i64 ex) := Hb_1.out.cell 0
  have r_b1 : v1.cell? ⟨g1, 1, none⟩ = some (.int .i64 et) := Hb_1.out.cell 1
  have r_b2 : v1.cell? ⟨g1, 2, none⟩ = some (.int .i64 ec) := Hb_1.out.cell 2
  have r_b3 : v1.cell? ⟨g1, 3, none⟩ = some (.int .i64 es) := Hb_1.out.cell 3
  have r_b4 : v1.cell? ⟨g1, 4, none⟩ = some (.int .i64 ek) := Hb_1.out.cell 4
  have r_b5 : v1.cell? ⟨g1, 5, none⟩ = some (.int .i64 ea) := Hb_1.out.cell 5
  have r_b6 : v1.cell? ⟨g1, 6, none⟩ = some (.int .i64 eb) := Hb_1.out.cell 6
  have r_b7 : v1.cell? ⟨g1, 7, none⟩ = some (.int .i64 eg) := Hb_1.out.cell 7
  have r_b8 : v1.cell? ⟨g1, 8, none⟩ = some (.int .i64 eh) := Hb_1.out.cell 8
  have lt_r := Hr_1.out.lt
  have r_r0 : v1.cell? ⟨g2, 0, none⟩ = some (.int .i64 0) := Hr_1.out.cell 0
  have r_r1 : v1.cell? ⟨g2, 1, none⟩ = some (.int .i64 0) := Hr_1.out.cell 1
  have r_r2 : v1.cell? ⟨g2, 2, none⟩ = some (.slice none 0 0) := Hr_1.out.cell 2
  have r_r3 : v1.cell? ⟨g2, 3, none⟩ = some (.slice none 0 0) := Hr_1.out.cell 3
  have r_r4 : v1.cell? ⟨g2, 4, none⟩ = some (.int .i64 0) := Hr_1.out.cell 4
  have r_r5 : v1.cell? ⟨g2, 5, none⟩ = some (.int .i64 0) := Hr_1.out.cell 5
  have r_r6 : v1.cell? ⟨g2, 6, none⟩ = some (.int .i64 0) := Hr_1.out.cell 6
  have z_r0 := Hr_1.out.frozen 0
  have z_r1 := Hr_1.out.frozen 1
  have z_r2 := Hr_1.out.frozen 2
  have z_r3 := Hr_1.out.frozen 3
  have z_r4 := Hr_1.out.frozen 4
  have z_r5 := Hr_1.out.frozen 5
  have z_r6 := Hr_1.out.frozen 6
  go_upto_region 2 with fail
  obtain ⟨v2, hv2⟩ : ∃ x : World, x = (v1.alloc (.cells #[.int .i64 h2, .int .i64 e2, .int .i64 u2] 35)) := ⟨_, rfl⟩
  rw [← hv2]
  have f2 : Below w.heap.size w v2 := by rw [hv2]; (repeat' (first | (with_reducible exact Below.refl _ _) | (with_reducible assumption) | (with_reducible refine Below.alloc ?_ ?_ _) | (with_reducible refine Below.drew ?_) | (with_reducible refine Below.setCell ?_ ?_ _) | (with_reducible refine bstep (by assumption) ?_ ?_) | (with_reducible exact Nat.le_refl _) | omega | (simp [*]; done) | (simp [*]; omega)))
  have z2 : v1.heap.size + 1 ≤ v2.heap.size := by rw [hv2]; simp [size_set]
  have HP_2 : Hid (Sl v2 2 A n (PR pl)) := by rw [hv2]; exact (HP_1.out).alloc _
  have HQ_2 : Hid (Sl v2 5 B m (JB ql)) := by rw [hv2]; exact (HQ_1.out).alloc _
  have Ha_2 : Hid (Blk v2 w.heap.size 37 #[.int .i64 i0, .int .i64 t0, .slice A n c, .slice B m d, .int .i64 l0, .int .i64 l1, .int .i64 l2]) := by rw [hv2]; exact (Ha_1.out).alloc _
  have Hb_2 : Hid (Blk v2 g1 43 #[.int .i64 ex, .int .i64 et, .int .i64 ec, .int .i64 es, .int .i64 ek, .int .i64 ea, .int .i64 eb, .int .i64 eg, .int .i64 eh]) := by rw [hv2]; exact (Hb_1.out).alloc _
  have Hr_2 : Hid (Blk v2 g2 37 #[.int .i64 0, .int .i64 0, .slice none 0 0, .slice none 0 0, .int .i64 0, .int .i64 0, .int .i64 0]) := by rw [hv2]; exact (Hr_1.out).alloc _
  have Hl_2 : Hid (Blk v2 v1.heap.size 35 #[.int .i64 h2, .int .i64 e2, .int .i64 u2]) := by rw [hv2]; exact (Blk.new_at _ _ _ _ (by simp [size_set]))
  clear lt_a r_a0 r_a1 r_a2 r_a3 r_a4 r_a5 r_a6 z_a0 z_a1 z_a2 z_a3 z_a4 z_a5 z_a6 lt_b r_b0 r_b1 r_b2 r_b3 r_b4 r_b5 r_b6 r_b7 r_b8 lt_r r_r0 r_r1 r_r2 r_r3 r_r4 r_r5 r_r6 z_r0 z_r1 z_r2 z_r3 z_r4 z_r5 z_r6
  clear hv2 HP_1 HQ_1 Ha_1 Hb_1 Hr_1
  have lt_a := Ha_2.out.lt
  have r_a0 : v2.cell? ⟨w.heap.size, 0, none⟩ = some (.int .i64 i0) := Ha_2.out.cell 0
  have r_a1 : v2.cell? ⟨w.heap.size, 1, none⟩ = some (.int .i64 t0) := Ha_2.out.cell 1
  have r_a2 : v2.cell? ⟨w.heap.size, 2, none⟩ = some (.slice A n c) := Ha_2.out.cell 2
  have r_a3 : v2.cell? ⟨w.heap.size, 3, none⟩ = some (.slice B m d) := Ha_2.out.cell 3
  have r_a4 : v2.cell? ⟨w.heap.size, 4, none⟩ = some (.int .i64 l0) := Ha_2.out.cell 4
  have r_a5 : v2.cell? ⟨w.heap.size, 5, none⟩ = some (.int .i64 l1) := Ha_2.out.cell 5
  have r_a6 : v2.cell? ⟨w.heap.size, 6, none⟩ = some (.int .i64 l2) := Ha_2.out.cell 6
  have z_a0 := Ha_2.out.frozen 0
  have z_a1 := Ha_2.out.frozen 1
  have z_a2 := Ha_2.out.frozen 2
  have z_a3 := Ha_2.out.frozen 3
  have z_a4 := Ha_2.out.frozen 4
  have z_a5 := Ha_2.out.frozen 5
  have z_a6 := Ha_2.out.frozen 6
  have lt_b := Hb_2.out.lt
  have r_b0 : v2.cell? ⟨g1, 0, none⟩ = some (.int .i64 ex) := Hb_2.out.cell 0
  have r_b1 : v2.cell? ⟨g1, 1, none⟩ = some (.int .i64 et) := Hb_2.out.cell 1
  have r_b2 : v2.cell? ⟨g1, 2, none⟩ = some (.int .i64 ec) := Hb_2.out.cell 2
  have r_b3 : v2.cell? ⟨g1, 3, none⟩ = some (.int .i64 es) := Hb_2.out.cell 3
  have r_b4 : v2.cell? ⟨g1, 4, none⟩ = some (.int .i64 ek) := Hb_2.out.cell 4
  have r_b5 : v2.cell? ⟨g1, 5, none⟩ = some (.int .i64 ea) := Hb_2.out.cell 5
  have r_b6 : v2.cell? ⟨g1, 6, none⟩ = some (.int .i64 eb) := Hb_2.out.cell 6
  have r_b7 : v2.cell? ⟨g1, 7, none⟩ = some (.int .i64 eg) := Hb_2.out.cell 7
  have r_b8 : v2.cell? ⟨g1, 8, none⟩ = some (.int .i64 eh) := Hb_2.out.cell 8
  have lt_r := Hr_2.out.lt
  have r_r0 : v2.cell? ⟨g2, 0, none⟩ = some (.int .i64 0) := Hr_2.out.cell 0
  have r_r1 : v2.cell? ⟨g2, 1, none⟩ = some (.int .i64 0) := Hr_2.out.cell 1
  have r_r2 : v2.cell? ⟨g2, 2, none⟩ = some (.slice none 0 0) := Hr_2.out.cell 2
  have r_r3 : v2.cell? ⟨g2, 3, none⟩ = some (.slice none 0 0) := Hr_2.out.cell 3
  have r_r4 : v2.cell? ⟨g2, 4, none⟩ = some (.int .i64 0) := Hr_2.out.cell 4
  have r_r5 : v2.cell? ⟨g2, 5, none⟩ = some (.int .i64 0) := Hr_2.out.cell 5
  have r_r6 : v2.cell? ⟨g2, 6, none⟩ = some (.int .i64 0) := Hr_2.out.cell 6
  have z_r0 := Hr_2.out.frozen 0
  have z_r1 := Hr_2.out.frozen 1
  have z_r2 := Hr_2.out.frozen 2
  have z_r3 := Hr_2.out.frozen 3
  have z_r4 := Hr_2.out.frozen 4
  have z_r5 := Hr_2.out.frozen 5
  have z_r6 := Hr_2.out.frozen 6
  have lt_l := Hl_2.out.lt
  have r_l0 : v2.cell? ⟨v1.heap.size, 0, none⟩ = some (.int .i64 h2) := Hl_2.out.cell 0
  have r_l1 : v2.cell? ⟨v1.heap.size, 1, none⟩ = some (.int .i64 e2) := Hl_2.out.cell 1
  have r_l2 : v2.cell? ⟨v1.heap.size, 2, none⟩ = some (.int .i64 u2) := Hl_2.out.cell 2
  go_wp21
  refine bodyPost_ret (v := .tuple #[.agg #[.int .i64 i0, .int .i64 t0, .slice A n c, .slice B m d, .int .i64 h2, .int .i64 e2, .int .i64 u2], .bool ok]) (by simp [results, Tryz.results107, go_sem, *]) rfl ?_
  exact RetEff.of (by (repeat' (first | (with_reducible exact Below.refl _ _) | (with_reducible assumption) | (with_reducible refine Below.alloc ?_ ?_ _) | (with_reducible refine Below.drew ?_) | (with_reducible refine Below.setCell ?_ ?_ _) | (with_reducible refine bstep (by assumption) ?_ ?_) | (with_reducible exact Nat.le_refl _) | omega | (simp [*]; done) | (simp [*]; omega)))) rfl rfl (((((((((((HP_2.out).far (p := ⟨w.heap.size, 4, none⟩) (fun hn a ha => by have := HP_lt.out hn a ha; show a.block ≠ w.heap.size; omega) _).far (p := ⟨w.heap.size, 5, none⟩) (fun hn a ha => by have := HP_lt.out hn a ha; show a.block ≠ w.heap.size; omega) _).far (p := ⟨w.heap.size, 6, none⟩) (fun hn a ha => by have := HP_lt.out hn a ha; show a.block ≠ w.heap.size; omega) _).far (p := ⟨g2, 0, none⟩) (fun hn a ha => by have := HP_lt.out hn a ha; show a.block ≠ g2; omega) _).far (p := ⟨g2, 1, none⟩) (fun hn a ha => by have := HP_lt.out hn a ha; show a.block ≠ g2; omega) _).far (p := ⟨g2, 2, none⟩) (fun hn a ha => by have := HP_lt.out hn a ha; show a.block ≠ g2; omega) _).far (p := ⟨g2, 3, none⟩) (fun hn a ha => by have := HP_lt.out hn a ha; show a.block ≠ g2; omega) _).far (p := ⟨g2, 4, none⟩) (fun hn a ha => by have := HP_lt.out hn a ha; show a.block ≠ g2; omega) _).far (p := ⟨g2, 5, none⟩) (fun hn a ha => by have := HP_lt.out hn a ha; show a.block ≠ g2; omega) _).far (p := ⟨g2, 6, none⟩) (fun hn a ha => by have := HP_lt.out hn a ha; show a.block ≠ g2; omega) _) hL.out HA.out (((((((((((HQ_2.out).far (p := ⟨w.heap.size, 4, none⟩) (fun hn a ha => by have := HQ_lt.out hn a ha; show a.block ≠ w.heap.size; omega) _).far (p := ⟨w.heap.size, 5, none⟩) (fun hn a ha => by have := HQ_lt.out hn a ha; show a.block ≠ w.heap.size; omega) _).far (p := ⟨w.heap.size, 6, none⟩) (fun hn a ha => by have := HQ_lt.out hn a ha; show a.block ≠ w.heap.size; omega) _).far (p := ⟨g2, 0, none⟩) (fun hn a ha => by have := HQ_lt.out hn a ha; show a.block ≠ g2; omega) _).far (p := ⟨g2, 1, none⟩) (fun hn a ha => by have := HQ_lt.out hn a ha; show a.block ≠ g2; omega) _).far (p := ⟨g2, 2, none⟩) (fun hn a ha => by have := HQ_lt.out hn a ha; show a.block ≠ g2; omega) _).far (p := ⟨g2, 3, none⟩) (fun hn a ha => by have := HQ_lt.out hn a ha; show a.block ≠ g2; omega) _).far (p := ⟨g2, 4, none⟩) (fun hn a ha => by have := HQ_lt.out hn a ha; show a.block ≠ g2; omega) _).far (p := ⟨g2, 5, none⟩) (fun hn a ha => by have := HQ_lt.out hn a ha; show a.block ≠ g2; omega) _).far (p := ⟨g2, 6, none⟩) (fun hn a ha => by have := HQ_lt.out hn a ha; show a.block ≠ g2; omega) _) hR.out HB.out (fun h0 a ha => .inl (hPl h0 a ha)) (fun h0 a ha => .inl (hQl h0 a ha))
theorem eff5_any (A : Option Addr) (n c : Nat) (B : Option Addr) (m d : Nat) (i0 t0 l0 l1 l2 : Int) (pl : List Pr) (ql : List Jb) (ex et ec es ek ea eb eg eh : Int) (w : World) (hP : Sl w 2 A n (PR pl)) (hQ : Sl w 5 B m (JB ql)) (hl : pl.length = n) (hr : ql.length = m) (hn : n ≤ maxLen) (hm : m ≤ maxLen) (hA : A = none → n = 0 ∧ c = 0) (hB : B = none → m = 0 ∧ d = 0) (lo : Nat) (hPl : 0 < n → LtB A lo) (hQl : 0 < m → LtB B lo) :
    Calls Tryz.prog 107 #[.agg #[.int .i64 i0, .int .i64 t0, .slice A n c, .slice B m d, .int .i64 l0, .int .i64 l1, .int .i64 l2], .agg #[.int .i64 ex, .int .i64 et, .int .i64 ec, .int .i64 es, .int .i64 ek, .int .i64 ea, .int .i64 eb, .int .i64 eg, .int .i64 eh]] w (RetEff w lo i0 t0 pl ql (grantL l0 l1 l2 ec et ea).1.1 (grantL l0 l1 l2 ec et ea).1.2.1 (grantL l0 l1 l2 ec et ea).1.2.2 (grantL l0 l1 l2 ec et ea).2) :=
  eff5_g A n c B m d i0 t0 l0 l1 l2 pl ql ex et ec es ek ea eb eg eh w hP hQ hl hr hn hm hA hB lo hPl hQl _ _ _ _ (Lib.hid rfl)
set_option maxRecDepth 100000 in
set_option maxHeartbeats 4000000 in
theorem eff4_no (A : Option Addr) (n c : Nat) (B : Option Addr) (m d : Nat) (i0 t0 l0 l1 l2 : Int) (pl : List Pr) (ql : List Jb) (ex et ec es ek ea eb eg eh : Int) (w : World) (hP : Sl w 2 A n (PR pl)) (hQ : Sl w 5 B m (JB ql)) (hl : pl.length = n) (hr : ql.length = m) (hn : n ≤ maxLen) (hm : m ≤ maxLen) (hA : A = none → n = 0 ∧ c = 0) (hB : B = none → m = 0 ∧ d = 0) (lo : Nat) (hPl : 0 < n → LtB A lo) (hQl : 0 < m → LtB B lo) (p2 : List Pr) (q2 : List Jb) (h2 e2 u2 : Int) (hf : Hid (firesB l0 l1 l2 ql et ec ek ea eb = false)) :
    Calls Tryz.prog 103 #[.agg #[.int .i64 i0, .int .i64 t0, .slice A n c, .slice B m d, .int .i64 l0, .int .i64 l1, .int .i64 l2], .agg #[.int .i64 ex, .int .i64 et, .int .i64 ec, .int .i64 es, .int .i64 ek, .int .i64 ea, .int .i64 eb, .int .i64 eg, .int .i64 eh]] w (RetEff w lo i0 t0 p2 q2 h2 e2 u2 false) := by
  have HP := Lib.hid hP
  have HQ := Lib.hid hQ
  have HA := Lib.hid hA
  have HB := Lib.hid hB
  have hL := Lib.hid hl
  have hR := Lib.hid hr
  clear hP hQ hA hB hl hr
  go_enter Tryz.func103, Tryz.ntmps103
  go_wp2_with fail
  refine calls_named ?_
  rintro v0 hv0
  have f0 : Below w.heap.size w v0 := by rw [hv0]; (repeat' (first | (with_reducible exact Below.refl _ _) | (with_reducible assumption) | (with_reducible refine Below.alloc ?_ ?_ _) | (with_reducible refine Below.drew ?_) | (with_reducible refine Below.setCell ?_ ?_ _) | (with_reducible refine bstep (by assumption) ?_ ?_) | (with_reducible exact Nat.le_refl _) | omega | (simp [*]; done) | (simp [*]; omega)))
  have z0 : w.heap.size + 3 ≤ v0.heap.size := by rw [hv0]; simp [size_set]
  have HP_0 := Lib.hid (HP.out.below f0)
  have HP_lt := Lib.hid (fun hn => HP.out.lt hn)
  have HQ_0 := Lib.hid (HQ.out.below f0)
  have HQ_lt := Lib.hid (fun hn => HQ.out.lt hn)
  have Ha_0 : Hid (Blk v0 w.heap.size 37 #[.int .i64 i0, .int .i64 t0, .slice A n c, .slice B m d, .int .i64 l0, .int .i64 l1, .int .i64 l2]) := by rw [hv0]; exact ((Blk.new_at _ _ _ _ (by simp)).alloc _).alloc _
  have Hb_0 : Hid (Blk v0 (w.heap.size + 1) 43 #[.int .i64 ex, .int .i64 et, .int .i64 ec, .int .i64 es, .int .i64 ek, .int .i64 ea, .int .i64 eb, .int .i64 eg, .int .i64 eh]) := by rw [hv0]; exact (Blk.new_at _ _ _ _ (by simp)).alloc _
  have Hr_0 : Hid (Blk v0 (w.heap.size + 1 + 1) 37 #[.int .i64 0, .int .i64 0, .slice none 0 0, .slice none 0 0, .int .i64 0, .int .i64 0, .int .i64 0]) := by rw [hv0]; exact Blk.new_at _ _ _ _ (by simp)
  clear hv0
  generalize hg2 : w.heap.size + 1 + 1 = g2 at *
  generalize hg1 : w.heap.size + 1 = g1 at *
  have lg1 : w.heap.size < g1 := by omega
  have lg2 : g1 < g2 := by omega
  have lgz : g2 < v0.heap.size := by omega
  have nq1x0 : ¬ g1 = w.heap.size := by omega
  have nq0x1 : ¬ w.heap.size = g1 := by omega
  have nq2x0 : ¬ g2 = w.heap.size := by omega
  have nq0x2 : ¬ w.heap.size = g2 := by omega
  have nq2x1 : ¬ g2 = g1 := by omega
  have nq1x2 : ¬ g1 = g2 := by omega
  clear hg1 hg2
  have lt_a := Ha_0.out.lt
  have r_a0 : v0.cell? ⟨w.heap.size, 0, none⟩ = some (.int .i64 i0) := Ha_0.out.cell 0
  have r_a1 : v0.cell? ⟨w.heap.size, 1, none⟩ = some (.int .i64 t0) := Ha_0.out.cell 1
  have r_a2 : v0.cell? ⟨w.heap.size, 2, none⟩ = some (.slice A n c) := Ha_0.out.cell 2
  have r_a3 : v0.cell? ⟨w.heap.size, 3, none⟩ = some (.slice B m d) := Ha_0.out.cell 3
  have r_a4 : v0.cell? ⟨w.heap.size, 4, none⟩ = some (.int .i64 l0) := Ha_0.out.cell 4
  have r_a5 : v0.cell? ⟨w.heap.size, 5, none⟩ = some (.int .i64 l1) := Ha_0.out.cell 5
  have r_a6 : v0.cell? ⟨w.heap.size, 6, none⟩ = some (.int .i64 l2) := Ha_0.out.cell 6
  have z_a0 := Ha_0.out.frozen 0
  have z_a1 := Ha_0.out.frozen 1
  have z_a2 := Ha_0.out.frozen 2
  have z_a3 := Ha_0.out.frozen 3
  have z_a4 := Ha_0.out.frozen 4
  have z_a5 := Ha_0.out.frozen 5
  have z_a6 := Ha_0.out.frozen 6
  have lt_b := Hb_0.out.lt
  have r_b0 : v0.cell? ⟨g1, 0, none⟩ = some (.int .i64 ex) := Hb_0.out.cell 0
  have r_b1 : v0.cell? ⟨g1, 1, none⟩ = some (.int .i64 et) := Hb_0.out.cell 1
  have r_b2 : v0.cell? ⟨g1, 2, none⟩ = some (.int .i64 ec) := Hb_0.out.cell 2
  have r_b3 : v0.cell? ⟨g1, 3, none⟩ = some (.int .i64 es) := Hb_0.out.cell 3
  have r_b4 : v0.cell? ⟨g1, 4, none⟩ = some (.int .i64 ek) := Hb_0.out.cell 4
  have r_b5 : v0.cell? ⟨g1, 5, none⟩ = some (.int .i64 ea) := Hb_0.out.cell 5
  have r_b6 : v0.cell? ⟨g1, 6, none⟩ = some (.int .i64 eb) := Hb_0.out.cell 6
  have r_b7 : v0.cell? ⟨g1, 7, none⟩ = some (.int .i64 eg) := Hb_0.out.cell 7
  have r_b8 : v0.cell? ⟨g1, 8, none⟩ = some (.int .i64 eh) := Hb_0.out.cell 8
  have lt_r := Hr_0.out.lt
  have r_r0 : v0.cell? ⟨g2, 0, none⟩ = some (.int .i64 0) := Hr_0.out.cell 0
  have r_r1 : v0.cell? ⟨g2, 1, none⟩ = some (.int .i64 0) := Hr_0.out.cell 1
  have r_r2 : v0.cell? ⟨g2, 2, none⟩ = some (.slice none 0 0) := Hr_0.out.cell 2
  have r_r3 : v0.cell? ⟨g2, 3, none⟩ = some (.slice none 0 0) := Hr_0.out.cell 3
  have r_r4 : v0.cell? ⟨g2, 4, none⟩ = some (.int .i64 0) := Hr_0.out.cell 4
  have r_r5 : v0.cell? ⟨g2, 5, none⟩ = some (.int .i64 0) := Hr_0.out.cell 5
  have r_r6 : v0.cell? ⟨g2, 6, none⟩ = some (.int .i64 0) := Hr_0.out.cell 6
  have z_r0 := Hr_0.out.frozen 0
  have z_r1 := Hr_0.out.frozen 1
  have z_r2 := Hr_0.out.frozen 2
  have z_r3 := Hr_0.out.frozen 3
  have z_r4 := Hr_0.out.frozen 4
  have z_r5 := Hr_0.out.frozen 5
  have z_r6 := Hr_0.out.frozen 6
  have cc := fires_any A n c B m d i0 t0 l0 l1 l2 ql ex et ec es ek ea eb eg eh v0 HQ_0.out hR.out hm
  rw [hf.out] at cc
  go_wp2_with fail
  refine (cc).mono ?_
  rintro e v1 ⟨rfl, b1⟩
  have f1 := bthen f0 b1
  have z1 := b1.size
  have HP_1 := Lib.hid (HP_0.out.below b1)
  have HQ_1 := Lib.hid (HQ_0.out.below b1)
  have Ha_1 := Lib.hid (Ha_0.out.below b1)
  have Hb_1 := Lib.hid (Hb_0.out.below b1)
  have Hr_1 := Lib.hid (Hr_0.out.below b1)
  clear lt_a r_a0 r_a1 r_a2 r_a3 r_a4 r_a5 r_a6 z_a0 z_a1 z_a2 z_a3 z_a4 z_a5 z_a6 lt_b r_b0 r_b1 r_b2 r_b3 r_b4 r_b5 r_b6 r_b7 r_b8 lt_r r_r0 r_r1 r_r2 r_r3 r_r4 r_r5 r_r6 z_r0 z_r1 z_r2 z_r3 z_r4 z_r5 z_r6
  clear HP_0 HQ_0 Ha_0 Hb_0 Hr_0
  clear cc
  have lt_a := Ha_1.out.lt
  have r_a0 : v1.cell? ⟨w.heap.size, 0, none⟩ = some (.int .i64 i0) := Ha_1.out.cell 0
  have r_a1 : v1.cell? ⟨w.heap.size, 1, none⟩ = some (.int .i64 t0) := Ha_1.out.cell 1
  have r_a2 : v1.cell? ⟨w.heap.size, 2, none⟩ = some (.slice A n c) := Ha_1.out.cell 2
  have r_a3 : v1.cell? ⟨w.heap.size, 3, none⟩ = some (.slice B m d) := Ha_1.out.cell 3
  have r_a4 : v1.cell? ⟨w.heap.size, 4, none⟩ = some (.int .i64 l0) := Ha_1.out.cell 4
  have r_a5 : v1.cell? ⟨w.heap.size, 5, none⟩ = some (.int .i64 l1) := Ha_1.out.cell 5
  have r_a6 : v1.cell? ⟨w.heap.size, 6, none⟩ = some (.int .i64 l2) := Ha_1.out.cell 6
  have z_a0 := Ha_1.out.frozen 0
  have z_a1 := Ha_1.out.frozen 1
  have z_a2 := Ha_1.out.frozen 2
  have z_a3 := Ha_1.out.frozen 3
  have z_a4 := Ha_1.out.frozen 4
  have z_a5 := Ha_1.out.frozen 5
  have z_a6 := Ha_1.out.frozen 6
  have lt_b := Hb_1.out.lt
  have r_b0 : v1.cell? ⟨g1, 0, none⟩ = some (.int .i64 ex) := Hb_1.out.cell 0
  have r_b1 : v1.cell? ⟨g1, 1, none⟩ = some (.int .i64 et) := Hb_1.out.cell 1
  have r_b2 : v1.cell? ⟨g1, 2, none⟩ = some (.int .i64 ec) := Hb_1.out.cell 2
  have r_b3 : v1.cell? ⟨g1, 3, none⟩ = some (.int .i64 es) := Hb_1.out.cell 3
  have r_b4 : v1.cell? ⟨g1, 4, none⟩ = some (.int .i64 ek) := Hb_1.out.cell 4
  have r_b5 : v1.cell? ⟨g1, 5, none⟩ = some (.int .i64 ea) := Hb_1.out.cell 5
  have r_b6 : v1.cell? ⟨g1, 6, none⟩ = some (.int .i64 eb) := Hb_1.out.cell 6
  have r_b7 : v1.cell? ⟨g1, 7, none⟩ = some (.int .i64 eg) := Hb_1.out.cell 7
  have r_b8 : v1.cell? ⟨g1, 8, none⟩ = some (.int .i64 eh) := Hb_1.out.cell 8
  have lt_r := Hr_1.out.lt
  have r_r0 : v1.cell? ⟨g2, 0, none⟩ = some (.int .i64 0) := Hr_1.out.cell 0
  have r_r1 : v1.cell? ⟨g2, 1, none⟩ = some (.int .i64 0) := Hr_1.out.cell 1
  have r_r2 : v1.cell? ⟨g2, 2, none⟩ = some (.slice none 0 0) := Hr_1.out.cell 2
  have r_r3 : v1.cell? ⟨g2, 3, none⟩ = some (.slice none 0 0) := Hr_1.out.cell 3
  have r_r4 : v1.cell? ⟨g2, 4, none⟩ = some (.int .i64 0) := Hr_1.out.cell 4
  have r_r5 : v1.cell? ⟨g2, 5, none⟩ = some (.int .i64 0) := Hr_1.out.cell 5
  have r_r6 : v1.cell? ⟨g2, 6, none⟩ = some (.int .i64 0) := Hr_1.out.cell 6
  have z_r0 := Hr_1.out.frozen 0
  have z_r1 := Hr_1.out.frozen 1
  have z_r2 := Hr_1.out.frozen 2
  have z_r3 := Hr_1.out.frozen 3
  have z_r4 := Hr_1.out.frozen 4
  have z_r5 := Hr_1.out.frozen 5
  have z_r6 := Hr_1.out.frozen 6
  go_wp21
  refine bodyPost_ret (v := .tuple #[.agg #[.int .i64 i0, .int .i64 t0, .slice A n c, .slice B m d, .int .i64 l0, .int .i64 l1, .int .i64 l2], .bool false]) (by simp [results, Tryz.results103, go_sem, *]) rfl ?_
  exact RetEff.no (by (repeat' (first | (with_reducible exact Below.refl _ _) | (with_reducible assumption) | (with_reducible refine Below.alloc ?_ ?_ _) | (with_reducible refine Below.drew ?_) | (with_reducible refine Below.setCell ?_ ?_ _) | (with_reducible refine bstep (by assumption) ?_ ?_) | (with_reducible exact Nat.le_refl _) | omega | (simp [*]; done) | (simp [*]; omega))))
set_option maxRecDepth 100000 in
set_option maxHeartbeats 4000000 in
theorem eff4_yes (A : Option Addr) (n c : Nat) (B : Option Addr) (m d : Nat) (i0 t0 l0 l1 l2 : Int) (pl : List Pr) (ql : List Jb) (ex et ec es ek ea eb eg eh : Int) (w : World) (hP : Sl w 2 A n (PR pl)) (hQ : Sl w 5 B m (JB ql)) (hl : pl.length = n) (hr : ql.length = m) (hn : n ≤ maxLen) (hm : m ≤ maxLen) (hA : A = none → n = 0 ∧ c = 0) (hB : B = none → m = 0 ∧ d = 0) (lo : Nat) (hPl : 0 < n → LtB A lo) (hQl : 0 < m → LtB B lo) (p2 : List Pr) (q2 : List Jb) (n2 m2 : Nat) (o1 o2 : Bool) (ji jd jk jv jf : Int) (jo : Bool) (hf : Hid (firesB l0 l1 l2 ql et ec ek ea eb = true)) (hj : Hid (jobAtV ql ea = (⟨ji, jd, jk, jv, jf⟩, jo))) (hq2 : Hid (firedR ql ji ex = (q2, o2))) (hp2 : Hid (putR pl jk jv = (p2, o1))) (hm2 : Hid (q2.length = m2)) (hn2 : Hid (p2.length = n2)) :
    Calls Tryz.prog 103 #[.agg #[.int .i64 i0, .int .i64 t0, .slice A n c, .slice B m d, .int .i64 l0, .int .i64 l1, .int .i64 l2], .agg #[.int .i64 ex, .int .i64 et, .int .i64 ec, .int .i64 es, .int .i64 ek, .int .i64 ea, .int .i64 eb, .int .i64 eg, .int .i64 eh]] w (RetEff w lo i0 t0 p2 q2 l0 l1 l2 true) := by
  have HP := Lib.hid hP
  have HQ := Lib.hid hQ
  have HA := Lib.hid hA
  have HB := Lib.hid hB
  have hL := Lib.hid hl
  have hR := Lib.hid hr
  clear hP hQ hA hB hl hr
  go_enter Tryz.func103, Tryz.ntmps103
  go_wp2_with fail
  refine calls_named ?_
  rintro v0 hv0
  have f0 : Below w.heap.size w v0 := by rw [hv0]; (repeat' (first | (with_reducible exact Below.refl _ _) | (with_reducible assumption) | (with_reducible refine Below.alloc ?_ ?_ _) | (with_reducible refine Below.drew ?_) | (with_reducible refine Below.setCell ?_ ?_ _) | (with_reducible refine bstep (by assumption) ?_ ?_) | (with_reducible exact Nat.le_refl _) | omega | (simp [*]; done) | (simp [*]; omega)))
  have z0 : w.heap.size + 3 ≤ v0.heap.size := by rw [hv0]; simp [size_set]
  have HP_0 := Lib.hid (HP.out.below f0)
  have HP_lt := Lib.hid (fun hn => HP.out.lt hn)
  have HQ_0 := Lib.hid (HQ.out.below f0)
  have HQ_lt := Lib.hid (fun hn => HQ.out.lt hn)
  have Ha_0 : Hid (Blk v0 w.heap.size 37 #[.int .i64 i0, .int .i64 t0, .slice A n c, .slice B m d, .int .i64 l0, .int .i64 l1, .int .i64 l2]) := by rw [hv0]; exact ((Blk.new_at _ _ _ _ (by simp)).alloc _).alloc _
  have Hb_0 : Hid (Blk v0 (w.heap.size + 1) 43 #[.int .i64 ex, .int .i64 et, .int .i64 ec, .int .i64 es, .int .i64 ek, .int .i64 ea, .int .i64 eb, .int .i64 eg, .int .i64 eh]) := by rw [hv0]; exact (Blk.new_at _ _ _ _ (by simp)).alloc _
  have Hr_0 : Hid (Blk v0 (w.heap.size + 1 + 1) 37 #[.int .i64 0, .int .i64 0, .slice none 0 0, .slice none 0 0, .int .i64 0, .int .i64 0, .int .i64 0]) := by rw [hv0]; exact Blk.new_at _ _ _ _ (by simp)
  clear hv0
  generalize hg2 : w.heap.size + 1 + 1 = g2 at *
  generalize hg1 : w.heap.size + 1 = g1 at *
  have lg1 : w.heap.size < g1 := by omega
  have lg2 : g1 < g2 := by omega
  have lgz : g2 < v0.heap.size := by omega
  have nq1x0 : ¬ g1 = w.heap.size := by omega
  have nq0x1 : ¬ w.heap.size = g1 := by omega
  have nq2x0 : ¬ g2 = w.heap.size := by omega
  have nq0x2 : ¬ w.heap.size = g2 := by omega
  have nq2x1 : ¬ g2 = g1 := by omega
  have nq1x2 : ¬ g1 = g2 := by omega
  clear hg1 hg2
  have lt_a := Ha_0.out.lt
  have r_a0 : v0.cell? ⟨w.heap.size, 0, none⟩ = some (.int .i64 i0) := Ha_0.out.cell 0
  have r_a1 : v0.cell? ⟨w.heap.size, 1, none⟩ = some (.int .i64 t0) := Ha_0.out.cell 1
  have r_a2 : v0.cell? ⟨w.heap.size, 2, none⟩ = some (.slice A n c) := Ha_0.out.cell 2
  have r_a3 : v0.cell? ⟨w.heap.size, 3, none⟩ = some (.slice B m d) := Ha_0.out.cell 3
  have r_a4 : v0.cell? ⟨w.heap.size, 4, none⟩ = some (.int .i64 l0) := Ha_0.out.cell 4
  have r_a5 : v0.cell? ⟨w.heap.size, 5, none⟩ = some (.int .i64 l1) := Ha_0.out.cell 5
  have r_a6 : v0.cell? ⟨w.heap.size, 6, none⟩ = some (.int .i64 l2) := Ha_0.out.cell 6
  have z_a0 := Ha_0.out.frozen 0
  have z_a1 := Ha_0.out.frozen 1
  have z_a2 := Ha_0.out.frozen 2
  have z_a3 := Ha_0.out.frozen 3
  have z_a4 := Ha_0.out.frozen 4
  have z_a5 := Ha_0.out.frozen 5
  have z_a6 := Ha_0.out.frozen 6
  have lt_b := Hb_0.out.lt
  have r_b0 : v0.cell? ⟨g1, 0, none⟩ = some (.int .i64 ex) := Hb_0.out.cell 0
  have r_b1 : v0.cell? ⟨g1, 1, none⟩ = some (.int .i64 et) := Hb_0.out.cell 1
  have r_b2 : v0.cell? ⟨g1, 2, none⟩ = some (.int .i64 ec) := Hb_0.out.cell 2
  have r_b3 : v0.cell? ⟨g1, 3, none⟩ = some (.int .i64 es) := Hb_0.out.cell 3
  have r_b4 : v0.cell? ⟨g1, 4, none⟩ = some (.int .i64 ek) := Hb_0.out.cell 4
  have r_b5 : v0.cell? ⟨g1, 5, none⟩ = some (.int .i64 ea) := Hb_0.out.cell 5
  have r_b6 : v0.cell? ⟨g1, 6, none⟩ = some (.int .i64 eb) := Hb_0.out.cell 6
  have r_b7 : v0.cell? ⟨g1, 7, none⟩ = some (.int .i64 eg) := Hb_0.out.cell 7
  have r_b8 : v0.cell? ⟨g1, 8, none⟩ = some (.int .i64 eh) := Hb_0.out.cell 8
  have lt_r := Hr_0.out.lt
  have r_r0 : v0.cell? ⟨g2, 0, none⟩ = some (.int .i64 0) := Hr_0.out.cell 0
  have r_r1 : v0.cell? ⟨g2, 1, none⟩ = some (.int .i64 0) := Hr_0.out.cell 1
  have r_r2 : v0.cell? ⟨g2, 2, none⟩ = some (.slice none 0 0) := Hr_0.out.cell 2
  have r_r3 : v0.cell? ⟨g2, 3, none⟩ = some (.slice none 0 0) := Hr_0.out.cell 3
  have r_r4 : v0.cell? ⟨g2, 4, none⟩ = some (.int .i64 0) := Hr_0.out.cell 4
  have r_r5 : v0.cell? ⟨g2, 5, none⟩ = some (.int .i64 0) := Hr_0.out.cell 5
  have r_r6 : v0.cell? ⟨g2, 6, none⟩ = some (.int .i64 0) := Hr_0.out.cell 6
  have z_r0 := Hr_0.out.frozen 0
  have z_r1 := Hr_0.out.frozen 1
  have z_r2 := Hr_0.out.frozen 2
  have z_r3 := Hr_0.out.frozen 3
  have z_r4 := Hr_0.out.frozen 4
  have z_r5 := Hr_0.out.frozen 5
  have z_r6 := Hr_0.out.frozen 6
  have cc := fires_any A n c B m d i0 t0 l0 l1 l2 ql ex et ec es ek ea eb eg eh v0 HQ_0.out hR.out hm
  rw [hf.out] at cc
  go_wp2_with fail
  refine (cc).mono ?_
  rintro e v1 ⟨rfl, b1⟩
  have f1 := bthen f0 b1
  have z1 := b1.size
  have HP_1 := Lib.hid (HP_0.out.below b1)
  have HQ_1 := Lib.hid (HQ_0.out.below b1)
  have Ha_1 := Lib.hid (Ha_0.out.below b1)
  have Hb_1 := Lib.hid (Hb_0.out.below b1)
  have Hr_1 := Lib.hid (Hr_0.out.below b1)
  clear lt_a r_a0 r_a1 r_a2 r_a3 r_a4 r_a5 r_a6 z_a0 z_a1 z_a2 z_a3 z_a4 z_a5 z_a6 lt_b r_b0 r_b1 r_b2 r_b3 r_b4 r_b5 r_b6 r_b7 r_b8 lt_r r_r0 r_r1 r_r2 r_r3 r_r4 r_r5 r_r6 z_r0 z_r1 z_r2 z_r3 z_r4 z_r5 z_r6
  clear HP_0 HQ_0 Ha_0 Hb_0 Hr_0
  clear cc
  have lt_a := Ha_1.out.lt
  have r_a0 : v1.cell? ⟨w.heap.size, 0, none⟩ = some (.int .i64 i0) := Ha_1.out.cell 0
  have r_a1 : v1.cell? ⟨w.heap.size, 1, none⟩ = some (.int .i64 t0) := Ha_1.out.cell 1
  have r_a2 : v1.cell? ⟨w.heap.size, 2, none⟩ = some (.slice A n c) := Ha_1.out.cell 2
  have r_a3 : v1.cell? ⟨w.heap.size, 3, none⟩ = some (.slice B m d) := Ha_1.out.cell 3
  have r_a4 : v1.cell? ⟨w.heap.size, 4, none⟩ = some (.int .i64 l0) := Ha_1.out.cell 4
  have r_a5 : v1.cell? ⟨w.heap.size, 5, none⟩ = some (.int .i64 l1) := Ha_1.out.cell 5
  have r_a6 : v1.cell? ⟨w.heap.size, 6, none⟩ = some (.int .i64 l2) := Ha_1.out.cell 6
  have z_a0 := Ha_1.out.frozen 0
  have z_a1 := Ha_1.out.frozen 1
  have z_a2 := Ha_1.out.frozen 2
  have z_a3 := Ha_1.out.frozen 3
  have z_a4 := Ha_1.out.frozen 4
  have z_a5 := Ha_1.out.frozen 5
  have z_a6 := Ha_1.out.frozen 6
  have lt_b := Hb_1.out.lt
  have r_b0 : v1.cell? ⟨g1, 0, none⟩ = some (.int .i64 ex) := Hb_1.out.cell 0
  have r_b1 : v1.cell? ⟨g1, 1, none⟩ = some (.int .i64 et) := Hb_1.out.cell 1
  have r_b2 : v1.cell? ⟨g1, 2, none⟩ = some (.int .i64 ec) := Hb_1.out.cell 2
  have r_b3 : v1.cell? ⟨g1, 3, none⟩ = some (.int .i64 es) := Hb_1.out.cell 3
  have r_b4 : v1.cell? ⟨g1, 4, none⟩ = some (.int .i64 ek) := Hb_1.out.cell 4
  have r_b5 : v1.cell? ⟨g1, 5, none⟩ = some (.int .i64 ea) := Hb_1.out.cell 5
  have r_b6 : v1.cell? ⟨g1, 6, none⟩ = some (.int .i64 eb) := Hb_1.out.cell 6
  have r_b7 : v1.cell? ⟨g1, 7, none⟩ = some (.int .i64 eg) := Hb_1.out.cell 7
  have r_b8 : v1.cell? ⟨g1, 8, none⟩ = some (.int .i64 eh) := Hb_1.out.cell 8
  have lt_r := Hr_1.out.lt
  have r_r0 : v1.cell? ⟨g2, 0, none⟩ = some (.int .i64 0) := Hr_1.out.cell 0
  have r_r1 : v1.cell? ⟨g2, 1, none⟩ = some (.int .i64 0) := Hr_1.out.cell 1
  have r_r2 : v1.cell? ⟨g2, 2, none⟩ = some (.slice none 0 0) := Hr_1.out.cell 2
  have r_r3 : v1.cell? ⟨g2, 3, none⟩ = some (.slice none 0 0) := Hr_1.out.cell 3
  have r_r4 : v1.cell? ⟨g2, 4, none⟩ = some (.int .i64 0) := Hr_1.out.cell 4
  have r_r5 : v1.cell? ⟨g2, 5, none⟩ = some (.int .i64 0) := Hr_1.out.cell 5
  have r_r6 : v1.cell? ⟨g2, 6, none⟩ = some (.int .i64 0) := Hr_1.out.cell 6
  have z_r0 := Hr_1.out.frozen 0
  have z_r1 := Hr_1.out.frozen 1
  have z_r2 := Hr_1.out.frozen 2
  have z_r3 := Hr_1.out.frozen 3
  have z_r4 := Hr_1.out.frozen 4
  have z_r5 := Hr_1.out.frozen 5
  have z_r6 := Hr_1.out.frozen 6
  have cc := jobAtV_any B m d ql ea v1 HQ_1.out hR.out hm
  rw [hj.out] at cc
  go_wp2_with fail
  refine (cc).mono ?_
  rintro e v2 ⟨rfl, b2⟩
  have f2 := bthen f1 b2
  have z2 := b2.size
  have HP_2 := Lib.hid (HP_1.out.below b2)
  have HQ_2 := Lib.hid (HQ_1.out.below b2)
  have Ha_2 := Lib.hid (Ha_1.out.below b2)
  have Hb_2 := Lib.hid (Hb_1.out.below b2)
  have Hr_2 := Lib.hid (Hr_1.out.below b2)
  clear lt_a r_a0 r_a1 r_a2 r_a3 r_a4 r_a5 r_a6 z_a0 z_a1 z_a2 z_a3 z_a4 z_a5 z_a6 lt_b r_b0 r_b1 r_b2 r_b3 r_b4 r_b5 r_b6 r_b7 r_b8 lt_r r_r0 r_r1 r_r2 r_r3 r_r4 r_r5 r_r6 z_r0 z_r1 z_r2 z_r3 z_r4 z_r5 z_r6
  clear HP_1 HQ_1 Ha_1 Hb_1 Hr_1
  clear cc
  have lt_a := Ha_2.out.lt
  have r_a0 : v2.cell? ⟨w.heap.size, 0, none⟩ = some (.int .i64 i0) := Ha_2.out.cell 0
  have r_a1 : v2.cell? ⟨w.heap.size, 1, none⟩ = some (.int .i64 t0) := Ha_2.out.cell 1
  have r_a2 : v2.cell? ⟨w.heap.size, 2, none⟩ = some (.slice A n c) := Ha_2.out.cell 2
  have r_a3 : v2.cell? ⟨w.heap.size, 3, none⟩ = some (.slice B m d) := Ha_2.out.cell 3
  have r_a4 : v2.cell? ⟨w.heap.size, 4, none⟩ = some (.int .i64 l0) := Ha_2.out.cell 4
  have r_a5 : v2.cell? ⟨w.heap.size, 5, none⟩ = some (.int .i64 l1) := Ha_2.out.cell 5
  have r_a6 : v2.cell? ⟨w.heap.size, 6, none⟩ = some (.int .i64 l2) := Ha_2.out.cell 6
  have z_a0 := Ha_2.out.frozen 0
  have z_a1 := Ha_2.out.frozen 1
  have z_a2 := Ha_2.out.frozen 2
  have z_a3 := Ha_2.out.frozen 3
  have z_a4 := Ha_2.out.frozen 4
  have z_a5 := Ha_2.out.frozen 5
  have z_a6 := Ha_2.out.frozen 6
  have lt_b := Hb_2.out.lt
  have r_b0 : v2.cell? ⟨g1, 0, none⟩ = some (.int .i64 ex) := Hb_2.out.cell 0
  have r_b1 : v2.cell? ⟨g1, 1, none⟩ = some (.int .i64 et) := Hb_2.out.cell 1
  have r_b2 : v2.cell? ⟨g1, 2, none⟩ = some (.int .i64 ec) := Hb_2.out.cell 2
  have r_b3 : v2.cell? ⟨g1, 3, none⟩ = some (.int .i64 es) := Hb_2.out.cell 3
  have r_b4 : v2.cell? ⟨g1, 4, none⟩ = some (.int .i64 ek) := Hb_2.out.cell 4
  have r_b5 : v2.cell? ⟨g1, 5, none⟩ = some (.int .i64 ea) := Hb_2.out.cell 5
  have r_b6 : v2.cell? ⟨g1, 6, none⟩ = some (.int .i64 eb) := Hb_2.out.cell 6
  have r_b7 : v2.cell? ⟨g1, 7, none⟩ = some (.int .i64 eg) := Hb_2.out.cell 7
  have r_b8 : v2.cell? ⟨g1, 8, none⟩ = some (.int .i64 eh) := Hb_2.out.cell 8
  have lt_r := Hr_2.out.lt
  have r_r0 : v2.cell? ⟨g2, 0, none⟩ = some (.int .i64 0) := Hr_2.out.cell 0
  have r_r1 : v2.cell? ⟨g2, 1, none⟩ = some (.int .i64 0) := Hr_2.out.cell 1
  have r_r2 : v2.cell? ⟨g2, 2, none⟩ = some (.slice none 0 0) := Hr_2.out.cell 2
  have r_r3 : v2.cell? ⟨g2, 3, none⟩ = some (.slice none 0 0) := Hr_2.out.cell 3
  have r_r4 : v2.cell? ⟨g2, 4, none⟩ = some (.int .i64 0) := Hr_2.out.cell 4
  have r_r5 : v2.cell? ⟨g2, 5, none⟩ = some (.int .i64 0) := Hr_2.out.cell 5
  have r_r6 : v2.cell? ⟨g2, 6, none⟩ = some (.int .i64 0) := Hr_2.out.cell 6
  have z_r0 := Hr_2.out.frozen 0
  have z_r1 := Hr_2.out.frozen 1
  have z_r2 := Hr_2.out.frozen 2
  have z_r3 := Hr_2.out.frozen 3
  have z_r4 := Hr_2.out.frozen 4
  have z_r5 := Hr_2.out.frozen 5
  have z_r6 := Hr_2.out.frozen 6
  go_wp2_with fail
  refine calls_named ?_
  rintro v3 hv3
  have f3 : Below w.heap.size w v3 := by rw [hv3]; (repeat' (first | (with_reducible exact Below.refl _ _) | (with_reducible assumption) | (with_reducible refine Below.alloc ?_ ?_ _) | (with_reducible refine Below.drew ?_) | (with_reducible refine Below.setCell ?_ ?_ _) | (with_reducible refine bstep (by assumption) ?_ ?_) | (with_reducible exact Nat.le_refl _) | omega | (simp [*]; done) | (simp [*]; omega)))
  have z3 : v2.heap.size + 1 ≤ v3.heap.size := by rw [hv3]; simp [size_set]
  have HP_3 : Hid (Sl v3 2 A n (PR pl)) := by rw [hv3]; exact (HP_2.out).alloc _
  have HQ_3 : Hid (Sl v3 5 B m (JB ql)) := by rw [hv3]; exact (HQ_2.out).alloc _
  have Ha_3 : Hid (Blk v3 w.heap.size 37 #[.int .i64 i0, .int .i64 t0, .slice A n c, .slice B m d, .int .i64 l0, .int .i64 l1, .int .i64 l2]) := by rw [hv3]; exact (Ha_2.out).alloc _
  have Hb_3 : Hid (Blk v3 g1 43 #[.int .i64 ex, .int .i64 et, .int .i64 ec, .int .i64 es, .int .i64 ek, .int .i64 ea, .int .i64 eb, .int .i64 eg, .int .i64 eh]) := by rw [hv3]; exact (Hb_2.out).alloc _
  have Hr_3 : Hid (Blk v3 g2 37 #[.int .i64 0, .int .i64 0, .slice none 0 0, .slice none 0 0, .int .i64 0, .int .i64 0, .int .i64 0]) := by rw [hv3]; exact (Hr_2.out).alloc _
  have Hj_3 : Hid (Blk v3 v2.heap.size 71 #[.int .i64 ji, .int .i64 jd, .int .i64 jk, .int .i64 jv, .int .i64 jf]) := by rw [hv3]; exact (Blk.new_at _ _ _ _ (by simp [size_set]))
  clear lt_a r_a0 r_a1 r_a2 r_a3 r_a4 r_a5 r_a6 z_a0 z_a1 z_a2 z_a3 z_a4 z_a5 z_a6 lt_b r_b0 r_b1 r_b2 r_b3 r_b4 r_b5 r_b6 r_b7 r_b8 lt_r r_r0 r_r1 r_r2 r_r3 r_r4 r_r5 r_r6 z_r0 z_r1 z_r2 z_r3 z_r4 z_r5 z_r6
  clear hv3 HP_2 HQ_2 Ha_2 Hb_2 Hr_2
  have lt_a := Ha_3.out.lt
  have r_a0 : v3.cell? ⟨w.heap.size, 0, none⟩ = some (.int .i64 i0) := Ha_3.out.cell 0
  have r_a1 : v3.cell? ⟨w.heap.size, 1, none⟩ = some (.int .i64 t0) := Ha_3.out.cell 1
  have r_a2 : v3.cell? ⟨w.heap.size, 2, none⟩ = some (.slice A n c) := Ha_3.out.cell 2
  have r_a3 : v3.cell? ⟨w.heap.size, 3, none⟩ = some (.slice B m d) := Ha_3.out.cell 3
  have r_a4 : v3.cell? ⟨w.heap.size, 4, none⟩ = some (.int .i64 l0) := Ha_3.out.cell 4
  have r_a5 : v3.cell? ⟨w.heap.size, 5, none⟩ = some (.int .i64 l1) := Ha_3.out.cell 5
  have r_a6 : v3.cell? ⟨w.heap.size, 6, none⟩ = some (.int .i64 l2) := Ha_3.out.cell 6
  have z_a0 := Ha_3.out.frozen 0
  have z_a1 := Ha_3.out.frozen 1
  have z_a2 := Ha_3.out.frozen 2
  have z_a3 := Ha_3.out.frozen 3
  have z_a4 := Ha_3.out.frozen 4
  have z_a5 := Ha_3.out.frozen 5
  have z_a6 := Ha_3.out.frozen 6
  have lt_b := Hb_3.out.lt
  have r_b0 : v3.cell? ⟨g1, 0, none⟩ = some (.int .i64 ex) := Hb_3.out.cell 0
  have r_b1 : v3.cell? ⟨g1, 1, none⟩ = some (.int .i64 et) := Hb_3.out.cell 1
  have r_b2 : v3.cell? ⟨g1, 2, none⟩ = some (.int .i64 ec) := Hb_3.out.cell 2
  have r_b3 : v3.cell? ⟨g1, 3, none⟩ = some (.int .i64 es) := Hb_3.out.cell 3
  have r_b4 : v3.cell? ⟨g1, 4, none⟩ = some (.int .i64 ek) := Hb_3.out.cell 4
  have r_b5 : v3.cell? ⟨g1, 5, none⟩ = some (.int .i64 ea) := Hb_3.out.cell 5
  have r_b6 : v3.cell? ⟨g1, 6, none⟩ = some (.int .i64 eb) := Hb_3.out.cell 6
  have r_b7 : v3.cell? ⟨g1, 7, none⟩ = some (.int .i64 eg) := Hb_3.out.cell 7
  have r_b8 : v3.cell? ⟨g1, 8, none⟩ = some (.int .i64 eh) := Hb_3.out.cell 8
  have lt_r := Hr_3.out.lt
  have r_r0 : v3.cell? ⟨g2, 0, none⟩ = some (.int .i64 0) := Hr_3.out.cell 0
  have r_r1 : v3.cell? ⟨g2, 1, none⟩ = some (.int .i64 0) := Hr_3.out.cell 1
  have r_r2 : v3.cell? ⟨g2, 2, none⟩ = some (.slice none 0 0) := Hr_3.out.cell 2
  have r_r3 : v3.cell? ⟨g2, 3, none⟩ = some (.slice none 0 0) := Hr_3.out.cell 3
  have r_r4 : v3.cell? ⟨g2, 4, none⟩ = some (.int .i64 0) := Hr_3.out.cell 4
  have r_r5 : v3.cell? ⟨g2, 5, none⟩ = some (.int .i64 0) := Hr_3.out.cell 5
  have r_r6 : v3.cell? ⟨g2, 6, none⟩ = some (.int .i64 0) := Hr_3.out.cell 6
  have z_r0 := Hr_3.out.frozen 0
  have z_r1 := Hr_3.out.frozen 1
  have z_r2 := Hr_3.out.frozen 2
  have z_r3 := Hr_3.out.frozen 3
  have z_r4 := Hr_3.out.frozen 4
  have z_r5 := Hr_3.out.frozen 5
  have z_r6 := Hr_3.out.frozen 6
  have lt_j := Hj_3.out.lt
  have r_j0 : v3.cell? ⟨v2.heap.size, 0, none⟩ = some (.int .i64 ji) := Hj_3.out.cell 0
  have r_j1 : v3.cell? ⟨v2.heap.size, 1, none⟩ = some (.int .i64 jd) := Hj_3.out.cell 1
  have r_j2 : v3.cell? ⟨v2.heap.size, 2, none⟩ = some (.int .i64 jk) := Hj_3.out.cell 2
  have r_j3 : v3.cell? ⟨v2.heap.size, 3, none⟩ = some (.int .i64 jv) := Hj_3.out.cell 3
  have r_j4 : v3.cell? ⟨v2.heap.size, 4, none⟩ = some (.int .i64 jf) := Hj_3.out.cell 4
  have cc := firedRI_any B m d ql ji ex v3 HQ_3.out hR.out hm HB.out
  rw [hq2.out] at cc
  replace cc := cc.mono (fun _ _ h => Lib.hid h)
  have HX : ∀ e w1, RetRowB v3 71 5 (q2, o2).1.length (JB (q2, o2).1) (q2, o2).2 e w1 → RetRowB v3 71 5 m2 (JB q2) o2 e w1 := fun e w1 h => by
    have := hm2.out
    subst this
    exact h
  refine cc.mono ?_
  rintro e v4 hx
  obtain ⟨B1, d1, rfl, Ry, b4⟩ := HX _ _ hx.out
  clear HX hx cc
  have f4 := bthen f3 b4
  have z4 := b4.size
  have HP_4 := Lib.hid (HP_3.out.below b4)
  have HQ_4 := Lib.hid (HQ_3.out.below b4)
  have Ha_4 := Lib.hid (Ha_3.out.below b4)
  have Hb_4 := Lib.hid (Hb_3.out.below b4)
  have Hr_4 := Lib.hid (Hr_3.out.below b4)
  have Hj_4 := Lib.hid (Hj_3.out.below b4)
  clear lt_a r_a0 r_a1 r_a2 r_a3 r_a4 r_a5 r_a6 z_a0 z_a1 z_a2 z_a3 z_a4 z_a5 z_a6 lt_b r_b0 r_b1 r_b2 r_b3 r_b4 r_b5 r_b6 r_b7 r_b8 lt_r r_r0 r_r1 r_r2 r_r3 r_r4 r_r5 r_r6 z_r0 z_r1 z_r2 z_r3 z_r4 z_r5 z_r6 lt_j r_j0 r_j1 r_j2 r_j3 r_j4
  clear HP_3 HQ_3 Ha_3 Hb_3 Hr_3 Hj_3
  have Hy_4 := Lib.hid Ry
  clear Ry
  have lt_a := Ha_4.out.lt
  have r_a0 : v4.cell? ⟨w.heap.size, 0, none⟩ = some (.int .i64 i0) := Ha_4.out.cell 0
  have r_a1 : v4.cell? ⟨w.heap.size, 1, none⟩ = some (.int .i64 t0) := Ha_4.out.cell 1
  have r_a2 : v4.cell? ⟨w.heap.size, 2, none⟩ = some (.slice A n c) := Ha_4.out.cell 2
  have r_a3 : v4.cell? ⟨w.heap.size, 3, none⟩ = some (.slice B m d) := Ha_4.out.cell 3
  have r_a4 : v4.cell? ⟨w.heap.size, 4, none⟩ = some (.int .i64 l0) := Ha_4.out.cell 4
  have r_a5 : v4.cell? ⟨w.heap.size, 5, none⟩ = some (.int .i64 l1) := Ha_4.out.cell 5
  have r_a6 : v4.cell? ⟨w.heap.size, 6, none⟩ = some (.int .i64 l2) := Ha_4.out.cell 6
  have z_a0 := Ha_4.out.frozen 0
  have z_a1 := Ha_4.out.frozen 1
  have z_a2 := Ha_4.out.frozen 2
  have z_a3 := Ha_4.out.frozen 3
  have z_a4 := Ha_4.out.frozen 4
  have z_a5 := Ha_4.out.frozen 5
  have z_a6 := Ha_4.out.frozen 6
  have lt_b := Hb_4.out.lt
  have r_b0 : v4.cell? ⟨g1, 0, none⟩ = some (.int .i64 ex) := Hb_4.out.cell 0
  have r_b1 : v4.cell? ⟨g1, 1, none⟩ = some (.int .i64 et) := Hb_4.out.cell 1
  have r_b2 : v4.cell? ⟨g1, 2, none⟩ = some (.int .i64 ec) := Hb_4.out.cell 2
  have r_b3 : v4.cell? ⟨g1, 3, none⟩ = some (.int .i64 es) := Hb_4.out.cell 3
  have r_b4 : v4.cell? ⟨g1, 4, none⟩ = some (.int .i64 ek) := Hb_4.out.cell 4
  have r_b5 : v4.cell? ⟨g1, 5, none⟩ = some (.int .i64 ea) := Hb_4.out.cell 5
  have r_b6 : v4.cell? ⟨g1, 6, none⟩ = some (.int .i64 eb) := Hb_4.out.cell 6
  have r_b7 : v4.cell? ⟨g1, 7, none⟩ = some (.int .i64 eg) := Hb_4.out.cell 7
  have r_b8 : v4.cell? ⟨g1, 8, none⟩ = some (.int .i64 eh) := Hb_4.out.cell 8
  have lt_r := Hr_4.out.lt
  have r_r0 : v4.cell? ⟨g2, 0, none⟩ = some (.int .i64 0) := Hr_4.out.cell 0
  have r_r1 : v4.cell? ⟨g2, 1, none⟩ = some (.int .i64 0) := Hr_4.out.cell 1
  have r_r2 : v4.cell? ⟨g2, 2, none⟩ = some (.slice none 0 0) := Hr_4.out.cell 2
  have r_r3 : v4.cell? ⟨g2, 3, none⟩ = some (.slice none 0 0) := Hr_4.out.cell 3
  have r_r4 : v4.cell? ⟨g2, 4, none⟩ = some (.int .i64 0) := Hr_4.out.cell 4
  have r_r5 : v4.cell? ⟨g2, 5, none⟩ = some (.int .i64 0) := Hr_4.out.cell 5
  have r_r6 : v4.cell? ⟨g2, 6, none⟩ = some (.int .i64 0) := Hr_4.out.cell 6
  have z_r0 := Hr_4.out.frozen 0
  have z_r1 := Hr_4.out.frozen 1
  have z_r2 := Hr_4.out.frozen 2
  have z_r3 := Hr_4.out.frozen 3
  have z_r4 := Hr_4.out.frozen 4
  have z_r5 := Hr_4.out.frozen 5
  have z_r6 := Hr_4.out.frozen 6
  have lt_j := Hj_4.out.lt
  have r_j0 : v4.cell? ⟨v2.heap.size, 0, none⟩ = some (.int .i64 ji) := Hj_4.out.cell 0
  have r_j1 : v4.cell? ⟨v2.heap.size, 1, none⟩ = some (.int .i64 jd) := Hj_4.out.cell 1
  have r_j2 : v4.cell? ⟨v2.heap.size, 2, none⟩ = some (.int .i64 jk) := Hj_4.out.cell 2
  have r_j3 : v4.cell? ⟨v2.heap.size, 3, none⟩ = some (.int .i64 jv) := Hj_4.out.cell 3
  have r_j4 : v4.cell? ⟨v2.heap.size, 4, none⟩ = some (.int .i64 jf) := Hj_4.out.cell 4
  go_wp2_with fail
  refine calls_named ?_
  rintro v5 hv5
  have f5 : Below w.heap.size w v5 := by rw [hv5]; (repeat' (first | (with_reducible exact Below.refl _ _) | (with_reducible assumption) | (with_reducible refine Below.alloc ?_ ?_ _) | (with_reducible refine Below.drew ?_) | (with_reducible refine Below.setCell ?_ ?_ _) | (with_reducible refine bstep (by assumption) ?_ ?_) | (with_reducible exact Nat.le_refl _) | omega | (simp [*]; done) | (simp [*]; omega)))
  have z5 : v4.heap.size + 0 ≤ v5.heap.size := by rw [hv5]; simp [size_set]
  have HP_5 : Hid (Sl v5 2 A n (PR pl)) := by rw [hv5]; exact (HP_4.out).far (p := ⟨w.heap.size, 3, none⟩) (fun hn a ha => by have := HP_lt.out hn a ha; show a.block ≠ w.heap.size; omega) _
  have HQ_5 : Hid (Sl v5 5 B m (JB ql)) := by rw [hv5]; exact (HQ_4.out).far (p := ⟨w.heap.size, 3, none⟩) (fun hn a ha => by have := HQ_lt.out hn a ha; show a.block ≠ w.heap.size; omega) _
  have Ha_5 : Hid (Blk v5 w.heap.size 37 #[.int .i64 i0, .int .i64 t0, .slice A n c, .slice B1 m2 d1, .int .i64 l0, .int .i64 l1, .int .i64 l2]) := by rw [hv5]; exact (Ha_4.out).set_ 3 _
  have Hb_5 : Hid (Blk v5 g1 43 #[.int .i64 ex, .int .i64 et, .int .i64 ec, .int .i64 es, .int .i64 ek, .int .i64 ea, .int .i64 eb, .int .i64 eg, .int .i64 eh]) := by rw [hv5]; exact (Hb_4.out).far (p := ⟨w.heap.size, 3, none⟩) (show g1 ≠ w.heap.size by omega) _
  have Hr_5 : Hid (Blk v5 g2 37 #[.int .i64 0, .int .i64 0, .slice none 0 0, .slice none 0 0, .int .i64 0, .int .i64 0, .int .i64 0]) := by rw [hv5]; exact (Hr_4.out).far (p := ⟨w.heap.size, 3, none⟩) (show g2 ≠ w.heap.size by omega) _
  have Hj_5 : Hid (Blk v5 v2.heap.size 71 #[.int .i64 ji, .int .i64 jd, .int .i64 jk, .int .i64 jv, .int .i64 jf]) := by rw [hv5]; exact (Hj_4.out).far (p := ⟨w.heap.size, 3, none⟩) (show v2.heap.size ≠ w.heap.size by omega) _
  have Hy_5 : Hid (Row v5 v3.heap.size 71 5 B1 m2 d1 (JB q2)) := by rw [hv5]; exact (Hy_4.out).far (p := ⟨w.heap.size, 3, none⟩) (fun a ha => by have := (Hy_4.out).ge a ha; show a.block ≠ w.heap.size; omega) _
  clear lt_a r_a0 r_a1 r_a2 r_a3 r_a4 r_a5 r_a6 z_a0 z_a1 z_a2 z_a3 z_a4 z_a5 z_a6 lt_b r_b0 r_b1 r_b2 r_b3 r_b4 r_b5 r_b6 r_b7 r_b8 lt_r r_r0 r_r1 r_r2 r_r3 r_r4 r_r5 r_r6 z_r0 z_r1 z_r2 z_r3 z_r4 z_r5 z_r6 lt_j r_j0 r_j1 r_j2 r_j3 r_j4
  clear hv5 HP_4 HQ_4 Ha_4 Hb_4 Hr_4 Hj_4 Hy_4
  have lt_a := Ha_5.out.lt
  have r_a0 : v5.cell? ⟨w.heap.size, 0, none⟩ = some (.int .i64 i0) := Ha_5.out.cell 0
  have r_a1 : v5.cell? ⟨w.heap.size, 1, none⟩ = some (.int .i64 t0) := Ha_5.out.cell 1
  have r_a2 : v5.cell? ⟨w.heap.size, 2, none⟩ = some (.slice A n c) := Ha_5.out.cell 2
  have r_a3 : v5.cell? ⟨w.heap.size, 3, none⟩ = some (.slice B1 m2 d1) := Ha_5.out.cell 3
  have r_a4 : v5.cell? ⟨w.heap.size, 4, none⟩ = some (.int .i64 l0) := Ha_5.out.cell 4
  have r_a5 : v5.cell? ⟨w.heap.size, 5, none⟩ = some (.int .i64 l1) := Ha_5.out.cell 5
  have r_a6 : v5.cell? ⟨w.heap.size, 6, none⟩ = some (.int .i64 l2) := Ha_5.out.cell 6
  have z_a0 := Ha_5.out.frozen 0
  have z_a1 := Ha_5.out.frozen 1
  have z_a2 := Ha_5.out.frozen 2
  have z_a3 := Ha_5.out.frozen 3
  have z_a4 := Ha_5.out.frozen 4
  have z_a5 := Ha_5.out.frozen 5
  have z_a6 := Ha_5.out.frozen 6
  have lt_b := Hb_5.out.lt
  have r_b0 : v5.cell? ⟨g1, 0, none⟩ = some (.int .i64 ex) := Hb_5.out.cell 0
  have r_b1 : v5.cell? ⟨g1, 1, none⟩ = some (.int .i64 et) := Hb_5.out.cell 1
  have r_b2 : v5.cell? ⟨g1, 2, none⟩ = some (.int .i64 ec) := Hb_5.out.cell 2
  have r_b3 : v5.cell? ⟨g1, 3, none⟩ = some (.int .i64 es) := Hb_5.out.cell 3
  have r_b4 : v5.cell? ⟨g1, 4, none⟩ = some (.int .i64 ek) := Hb_5.out.cell 4
  have r_b5 : v5.cell? ⟨g1, 5, none⟩ = some (.int .i64 ea) := Hb_5.out.cell 5
  have r_b6 : v5.cell? ⟨g1, 6, none⟩ = some (.int .i64 eb) := Hb_5.out.cell 6
  have r_b7 : v5.cell? ⟨g1, 7, none⟩ = some (.int .i64 eg) := Hb_5.out.cell 7
  have r_b8 : v5.cell? ⟨g1, 8, none⟩ = some (.int .i64 eh) := Hb_5.out.cell 8
  have lt_r := Hr_5.out.lt
  have r_r0 : v5.cell? ⟨g2, 0, none⟩ = some (.int .i64 0) := Hr_5.out.cell 0
  have r_r1 : v5.cell? ⟨g2, 1, none⟩ = some (.int .i64 0) := Hr_5.out.cell 1
  have r_r2 : v5.cell? ⟨g2, 2, none⟩ = some (.slice none 0 0) := Hr_5.out.cell 2
  have r_r3 : v5.cell? ⟨g2, 3, none⟩ = some (.slice none 0 0) := Hr_5.out.cell 3
  have r_r4 : v5.cell? ⟨g2, 4, none⟩ = some (.int .i64 0) := Hr_5.out.cell 4
  have r_r5 : v5.cell? ⟨g2, 5, none⟩ = some (.int .i64 0) := Hr_5.out.cell 5
  have r_r6 : v5.cell? ⟨g2, 6, none⟩ = some (.int .i64 0) := Hr_5.out.cell 6
  have z_r0 := Hr_5.out.frozen 0
  have z_r1 := Hr_5.out.frozen 1
  have z_r2 := Hr_5.out.frozen 2
  have z_r3 := Hr_5.out.frozen 3
  have z_r4 := Hr_5.out.frozen 4
  have z_r5 := Hr_5.out.frozen 5
  have z_r6 := Hr_5.out.frozen 6
  have lt_j := Hj_5.out.lt
  have r_j0 : v5.cell? ⟨v2.heap.size, 0, none⟩ = some (.int .i64 ji) := Hj_5.out.cell 0
  have r_j1 : v5.cell? ⟨v2.heap.size, 1, none⟩ = some (.int .i64 jd) := Hj_5.out.cell 1
  have r_j2 : v5.cell? ⟨v2.heap.size, 2, none⟩ = some (.int .i64 jk) := Hj_5.out.cell 2
  have r_j3 : v5.cell? ⟨v2.heap.size, 3, none⟩ = some (.int .i64 jv) := Hj_5.out.cell 3
  have r_j4 : v5.cell? ⟨v2.heap.size, 4, none⟩ = some (.int .i64 jf) := Hj_5.out.cell 4
  have cc := putRI_any A n c pl jk jv v5 HP_5.out hL.out hn HA.out
  rw [hp2.out] at cc
  replace cc := cc.mono (fun _ _ h => Lib.hid h)
  have HX : ∀ e w1, RetRowB v5 106 2 (p2, o1).1.length (PR (p2, o1).1) (p2, o1).2 e w1 → RetRowB v5 106 2 n2 (PR p2) o1 e w1 := fun e w1 h => by
    have := hn2.out
    subst this
    exact h
  refine cc.mono ?_
  rintro e v6 hx
  obtain ⟨A1, c1, rfl, Rx, b6⟩ := HX _ _ hx.out
  clear HX hx cc
  have f6 := bthen f5 b6
  have z6 := b6.size
  have HP_6 := Lib.hid (HP_5.out.below b6)
  have HQ_6 := Lib.hid (HQ_5.out.below b6)
  have Ha_6 := Lib.hid (Ha_5.out.below b6)
  have Hb_6 := Lib.hid (Hb_5.out.below b6)
  have Hr_6 := Lib.hid (Hr_5.out.below b6)
  have Hj_6 := Lib.hid (Hj_5.out.below b6)
  have Hy_6 := Lib.hid (Hy_5.out.below b6)
  clear lt_a r_a0 r_a1 r_a2 r_a3 r_a4 r_a5 r_a6 z_a0 z_a1 z_a2 z_a3 z_a4 z_a5 z_a6 lt_b r_b0 r_b1 r_b2 r_b3 r_b4 r_b5 r_b6 r_b7 r_b8 lt_r r_r0 r_r1 r_r2 r_r3 r_r4 r_r5 r_r6 z_r0 z_r1 z_r2 z_r3 z_r4 z_r5 z_r6 lt_j r_j0 r_j1 r_j2 r_j3 r_j4
  clear HP_5 HQ_5 Ha_5 Hb_5 Hr_5 Hj_5 Hy_5
  have Hx_6 := Lib.hid Rx
  clear Rx
  have lt_a := Ha_6.out.lt
  have r_a0 : v6.cell? ⟨w.heap.size, 0, none⟩ = some (.int .i64 i0) := Ha_6.out.cell 0
  have r_a1 : v6.cell? ⟨w.heap.size, 1, none⟩ = some (.int .i64 t0) := Ha_6.out.cell 1
  have r_a2 : v6.cell? ⟨w.heap.size, 2, none⟩ = some (.slice A n c) := Ha_6.out.cell 2
  have r_a3 : v6.cell? ⟨w.heap.size, 3, none⟩ = some (.slice B1 m2 d1) := Ha_6.out.cell 3
  have r_a4 : v6.cell? ⟨w.heap.size, 4, none⟩ = some (.int .i64 l0) := Ha_6.out.cell 4
  have r_a5 : v6.cell? ⟨w.heap.size, 5, none⟩ = some (.int .i64 l1) := Ha_6.out.cell 5
  have r_a6 : v6.cell? ⟨w.heap.size, 6, none⟩ = some (.int .i64 l2) := Ha_6.out.cell 6
  have z_a0 := Ha_6.out.frozen 0
  have z_a1 := Ha_6.out.frozen 1
  have z_a2 := Ha_6.out.frozen 2
  have z_a3 := Ha_6.out.frozen 3
  have z_a4 := Ha_6.out.frozen 4
  have z_a5 := Ha_6.out.frozen 5
  have z_a6 := Ha_6.out.frozen 6
  have lt_b := Hb_6.out.lt
  have r_b0 : v6.cell? ⟨g1, 0, none⟩ = some (.int .i64 ex) := Hb_6.out.cell 0
  have r_b1 : v6.cell? ⟨g1, 1, none⟩ = some (.int .i64 et) := Hb_6.out.cell 1
  have r_b2 : v6.cell? ⟨g1, 2, none⟩ = some (.int .i64 ec) := Hb_6.out.cell 2
  have r_b3 : v6.cell? ⟨g1, 3, none⟩ = some (.int .i64 es) := Hb_6.out.cell 3
  have r_b4 : v6.cell? ⟨g1, 4, none⟩ = some (.int .i64 ek) := Hb_6.out.cell 4
  have r_b5 : v6.cell? ⟨g1, 5, none⟩ = some (.int .i64 ea) := Hb_6.out.cell 5
  have r_b6 : v6.cell? ⟨g1, 6, none⟩ = some (.int .i64 eb) := Hb_6.out.cell 6
  have r_b7 : v6.cell? ⟨g1, 7, none⟩ = some (.int .i64 eg) := Hb_6.out.cell 7
  have r_b8 : v6.cell? ⟨g1, 8, none⟩ = some (.int .i64 eh) := Hb_6.out.cell 8
  have lt_r := Hr_6.out.lt
  have r_r0 : v6.cell? ⟨g2, 0, none⟩ = some (.int .i64 0) := Hr_6.out.cell 0
  have r_r1 : v6.cell? ⟨g2, 1, none⟩ = some (.int .i64 0) := Hr_6.out.cell 1
  have r_r2 : v6.cell? ⟨g2, 2, none⟩ = some (.slice none 0 0) := Hr_6.out.cell 2
  have r_r3 : v6.cell? ⟨g2, 3, none⟩ = some (.slice none 0 0) := Hr_6.out.cell 3
  have r_r4 : v6.cell? ⟨g2, 4, none⟩ = some (.int .i64 0) := Hr_6.out.cell 4
  have r_r5 : v6.cell? ⟨g2, 5, none⟩ = some (.int .i64 0) := Hr_6.out.cell 5
  have r_r6 : v6.cell? ⟨g2, 6, none⟩ = some (.int .i64 0) := Hr_6.out.cell 6
  have z_r0 := Hr_6.out.frozen 0
  have z_r1 := Hr_6.out.frozen 1
  have z_r2 := Hr_6.out.frozen 2
  have z_r3 := Hr_6.out.frozen 3
  have z_r4 := Hr_6.out.frozen 4
  have z_r5 := Hr_6.out.frozen 5
  have z_r6 := Hr_6.out.frozen 6
  have lt_j := Hj_6.out.lt
  have r_j0 : v6.cell? ⟨v2.heap.size, 0, none⟩ = some (.int .i64 ji) := Hj_6.out.cell 0
  have r_j1 : v6.cell? ⟨v2.heap.size, 1, none⟩ = some (.int .i64 jd) := Hj_6.out.cell 1
  have r_j2 : v6.cell? ⟨v2.heap.size, 2, none⟩ = some (.int .i64 jk) := Hj_6.out.cell 2
  have r_j3 : v6.cell? ⟨v2.heap.size, 3, none⟩ = some (.int .i64 jv) := Hj_6.out.cell 3
  have r_j4 : v6.cell? ⟨v2.heap.size, 4, none⟩ = some (.int .i64 jf) := Hj_6.out.cell 4
  go_wp21
  refine bodyPost_ret (v := .tuple #[.agg #[.int .i64 i0, .int .i64 t0, .slice A1 n2 c1, .slice B1 m2 d1, .int .i64 l0, .int .i64 l1, .int .i64 l2], .bool true]) (by simp [results, Tryz.results103, go_sem, *]) rfl ?_
  exact RetEff.of (by (repeat' (first | (with_reducible exact Below.refl _ _) | (with_reducible assumption) | (with_reducible refine Below.alloc ?_ ?_ _) | (with_reducible refine Below.drew ?_) | (with_reducible refine Below.setCell ?_ ?_ _) | (with_reducible refine bstep (by assumption) ?_ ?_) | (with_reducible exact Nat.le_refl _) | omega | (simp [*]; done) | (simp [*]; omega)))) rfl rfl (((((((((Hx_6.out).far (p := ⟨w.heap.size, 2, none⟩) (fun a ha => by have := (Hx_6.out).ge a ha; show a.block ≠ w.heap.size; omega) _).far (p := ⟨g2, 0, none⟩) (fun a ha => by have := (Hx_6.out).ge a ha; show a.block ≠ g2; omega) _).far (p := ⟨g2, 1, none⟩) (fun a ha => by have := (Hx_6.out).ge a ha; show a.block ≠ g2; omega) _).far (p := ⟨g2, 2, none⟩) (fun a ha => by have := (Hx_6.out).ge a ha; show a.block ≠ g2; omega) _).far (p := ⟨g2, 3, none⟩) (fun a ha => by have := (Hx_6.out).ge a ha; show a.block ≠ g2; omega) _).far (p := ⟨g2, 4, none⟩) (fun a ha => by have := (Hx_6.out).ge a ha; show a.block ≠ g2; omega) _).far (p := ⟨g2, 5, none⟩) (fun a ha => by have := (Hx_6.out).ge a ha; show a.block ≠ g2; omega) _).far (p := ⟨g2, 6, none⟩) (fun a ha => by have := (Hx_6.out).ge a ha; show a.block ≠ g2; omega) _).sl hn2.out (row_nil Hx_6.out) (((((((((Hy_6.out).far (p := ⟨w.heap.size, 2, none⟩) (fun a ha => by have := (Hy_6.out).ge a ha; show a.block ≠ w.heap.size; omega) _).far (p := ⟨g2, 0, none⟩) (fun a ha => by have := (Hy_6.out).ge a ha; show a.block ≠ g2; omega) _).far (p := ⟨g2, 1, none⟩) (fun a ha => by have := (Hy_6.out).ge a ha; show a.block ≠ g2; omega) _).far (p := ⟨g2, 2, none⟩) (fun a ha => by have := (Hy_6.out).ge a ha; show a.block ≠ g2; omega) _).far (p := ⟨g2, 3, none⟩) (fun a ha => by have := (Hy_6.out).ge a ha; show a.block ≠ g2; omega) _).far (p := ⟨g2, 4, none⟩) (fun a ha => by have := (Hy_6.out).ge a ha; show a.block ≠ g2; omega) _).far (p := ⟨g2, 5, none⟩) (fun a ha => by have := (Hy_6.out).ge a ha; show a.block ≠ g2; omega) _).far (p := ⟨g2, 6, none⟩) (fun a ha => by have := (Hy_6.out).ge a ha; show a.block ≠ g2; omega) _).sl hm2.out (row_nil Hy_6.out) (fun _ a ha => .inr (by have := (Hx_6.out).ge a ha; omega)) (fun _ a ha => .inr (by have := (Hy_6.out).ge a ha; omega))
end Go.Proofs.YtokklkmibjpjnaaGreat
namespace Go.Proofs.YtokklkmibjpjnaaGreat
set_option linter.unusedSimpArgs false
set_option linter.unusedVariables false
attribute [local go_sem] n_lt2 n_lt3 n_lt4 n_le2 n_le3
open Go.RowKit
theorem fset_len (l : List Jb) (k : Nat) (x : Int) : (firedSet l k x).length = l.length := by unfold firedSet; simp
theorem fset_get (l : List Jb) (k : Nat) (x : Int) (hk : k < l.length) (j : Nat) : (firedSet l k x).getD j default = if j = k then { (l.getD k default) with f := x } else l.getD j default := by
  unfold firedSet
  by_cases h : j = k
  · subst h
    rw [if_pos rfl, List.getD_eq_getElem?_getD, List.getElem?_set_self hk]
    rfl
  · rw [if_neg h, List.getD_eq_getElem?_getD, List.getElem?_set_ne (fun e => h e.symm), ← List.getD_eq_getElem?_getD]
theorem fset_i (l : List Jb) (k : Nat) (x : Int) (hk : k < l.length) (j : Nat) : ((firedSet l k x).getD j default).i = (l.getD j default).i := by
  rw [fset_get l k x hk]
  split
  · rename_i h; subst h; rfl
  · rfl
theorem before_iff (l : List Jb) (i : Nat) (x : Int) : firedBefore l i x = true ↔ ∃ m, m < i ∧ (l.getD m default).f = x := by
  unfold firedBefore
  simp [List.any_eq_true]
theorem firedOk_parts {l : List Jb} {id x : Int} (h : firedOk l id x = true) : jobIx l id < l.length ∧ (l.getD (jobIx l id) default).f = 0 ∧ 1 ≤ x ∧ x ≤ 2000 ∧ ∀ m, m < l.length → (l.getD m default).f ≠ x := by
  unfold firedOk at h
  simp only [Bool.and_eq_true, decide_eq_true_eq, inB_iff, Bool.not_eq_true'] at h
  obtain ⟨h1, h2, ⟨h3, h4⟩, h5⟩ := h
  refine ⟨h1, h2, h3, h4, fun m hm he => ?_⟩
  have := (before_iff l l.length x).2 ⟨m, hm, he⟩
  rw [h5] at this
  cases this
theorem fset_ok {l : List Jb} {id x : Int} (hb : jobsB l = true) (ho : firedOk l id x = true) : jobsB (firedSet l (jobIx l id) x) = true := by
  obtain ⟨hk, hf, hx1, hx2, hno⟩ := firedOk_parts ho
  generalize jobIx l id = k at hk hf ⊢
  obtain ⟨h8, hall⟩ := jobsB_all hb
  refine jobsB_true (by rw [fset_len]; exact h8) (fun j hj => ?_)
  rw [fset_len] at hj
  have hj0 := hall j hj
  unfold jobAtB at hj0 ⊢
  simp only [Bool.and_eq_true, Bool.or_eq_true, decide_eq_true_eq, Bool.not_eq_true', Bool.and_eq_false_iff, decide_eq_false_iff_not] at hj0 ⊢
  obtain ⟨h1, h2, h3⟩ := hj0
  refine ⟨?_, ?_, ?_⟩
  · rw [fset_get l k x hk]
    split
    · rename_i h
      subst h
      unfold jobOkB jobB at h1 ⊢
      simp only [Bool.and_eq_true, inB_iff] at h1 ⊢
      omega
    · exact h1
  · rw [fset_i l k x hk, fset_i l k x hk]
    exact h2
  · by_cases h : j = k
    · subst h
      right
      rw [Bool.eq_false_iff]
      intro hc
      obtain ⟨m, hm, he⟩ := (before_iff _ _ _).1 hc
      rw [fset_get l j x hk, fset_get l j x hk, if_neg (by omega), if_pos rfl] at he
      exact hno m (by omega) he
    · rw [fset_get l k x hk, if_neg h]
      rcases h3 with h3 | h3
      · exact .inl h3
      · right
        rw [Bool.eq_false_iff]
        intro hc
        obtain ⟨m, hm, he⟩ := (before_iff _ _ _).1 hc
        rw [fset_get l k x hk] at he
        by_cases hmk : m = k
        · rw [if_pos hmk] at he
          exact hno j hj he.symm
        · rw [if_neg hmk] at he
          have := (before_iff l j _).2 ⟨m, hm, he⟩
          rw [h3] at this
          cases this
/-- What the law asks of a job list in which a job was just fired. -/
theorem once_job {l : List Jb} {id x : Int} (hb : jobsB l = true) (ho : firedOk l id x = true) :
    jobsB (firedSet l (jobIx l id) x) = true ∧ (jobAtV (firedSet l (jobIx l id) x) id).2 = true ∧ (jobAtV (firedSet l (jobIx l id) x) id).1.f = x ∧ (∀ y, (firedR (firedSet l (jobIx l id) x) id y).2 = false) ∧ (∀ b c d f, (addR (firedSet l (jobIx l id) x) ⟨id, b, c, d, f⟩).2 = false) := by
  have hB := fset_ok hb ho
  obtain ⟨hk, hf, hx1, hx2, hno⟩ := firedOk_parts ho
  have hid := jobIx_hit hk
  have hix : jobIx (firedSet l (jobIx l id) x) id = jobIx l id := jobIx_at hB (by rw [fset_len]; exact hk) (by rw [fset_i l _ x hk]; exact hid)
  have hv : jobAtV (firedSet l (jobIx l id) x) id = ((firedSet l (jobIx l id) x).getD (jobIx l id) default, true) := by
    unfold jobAtV
    rw [hix, fset_len, if_pos hk]
  refine ⟨hB, by rw [hv], by rw [hv, fset_get l _ x hk, if_pos rfl], fun y => ?_, fun b c d f => ?_⟩
  · unfold firedR
    rw [if_pos hB]
    have hn : firedOk (firedSet l (jobIx l id) x) id y = false := by
      unfold firedOk
      rw [hix, fset_get l _ x hk, if_pos rfl]
      have : decide (x = 0) = false := by simp; omega
      simp only [this, Bool.false_and, Bool.and_false]
    rw [if_neg (by rw [hn]; decide)]
  · unfold addR
    rw [if_pos hB]
    have hn : addOk (firedSet l (jobIx l id) x) ⟨id, b, c, d, f⟩ = false := by
      unfold addOk
      simp only [hv]
      simp
    rw [if_neg (by rw [hn]; decide)]
theorem once_of {l z : List Jb} {id x : Int} (h : firedR l id x = (z, true)) : jobsB z = true ∧ (jobAtR z id).2 = true ∧ (jobAtR z id).1.f = x ∧ (∀ y, (firedR z id y).2 = false) ∧ (∀ b c d f, (addR z ⟨id, b, c, d, f⟩).2 = false) := by
  unfold firedR at h
  split at h
  · rename_i hb
    split at h
    · rename_i ho
      injection h with h1 _
      subst h1
      obtain ⟨a, b, c, d, e⟩ := once_job hb ho
      unfold jobAtR
      rw [if_pos a]
      exact ⟨a, b, c, d, e⟩
    · injection h with _ h2; cases h2
  · injection h with _ h2; cases h2
end Go.Proofs.YtokklkmibjpjnaaGreat
namespace Go.Proofs.YtokklkmibjpjnaaGreat
set_option linter.unusedSimpArgs false
set_option linter.unusedVariables false
attribute [local go_sem] n_lt2 n_lt3 n_lt4 n_le2 n_le3
open Go.RowKit
structure Ef where
  p : List Pr
  q : List Jb
  h : Int
  e : Int
  u : Int
def effE (l0 l1 l2 : Int) (pl : List Pr) (ql : List Jb) (ex et ec es ek ea eb eg eh : Int) : Ef × Bool :=
  if ek = 1 then (⟨(putR pl ea eb).1, ql, l0, l1, l2⟩, (putR pl ea eb).2)
  else if ek = 2 then (⟨(cutR pl ea).1, ql, l0, l1, l2⟩, (cutR pl ea).2)
  else if ek = 3 then (⟨pl, (addR ql ⟨ea, eb, eg, eh, 0⟩).1, l0, l1, l2⟩, (addR ql ⟨ea, eb, eg, eh, 0⟩).2)
  else if ek = 4 then (if firesB l0 l1 l2 ql et ec ek ea eb = true then (⟨(putR pl (jobAtV ql ea).1.k (jobAtV ql ea).1.v).1, (firedR ql (jobAtV ql ea).1.i ex).1, l0, l1, l2⟩, true) else (⟨pl, ql, l0, l1, l2⟩, false))
  else (⟨pl, ql, (grantL l0 l1 l2 ec et ea).1.1, (grantL l0 l1 l2 ec et ea).1.2.1, (grantL l0 l1 l2 ec et ea).1.2.2⟩, (grantL l0 l1 l2 ec et ea).2)
/-- The state behind the next entry (its index and time are the entry's). -/
def appE (l0 l1 l2 : Int) (pl : List Pr) (ql : List Jb) (ex et ec es ek ea eb eg eh : Int) : Ef := if (effE l0 l1 l2 pl ql ex et ec es ek ea eb eg eh).2 = true then (effE l0 l1 l2 pl ql ex et ec es ek ea eb eg eh).1 else ⟨pl, ql, l0, l1, l2⟩
def appI (l0 l1 l2 : Int) (pl : List Pr) (ql : List Jb) (ex et ec es ek ea eb eg eh : Int) : Int := if (effE l0 l1 l2 pl ql ex et ec es ek ea eb eg eh).2 = true then ek else 0
def effI (i0 t0 l0 l1 l2 : Int) (pl : List Pr) (ql : List Jb) (ex et ec es ek ea eb eg eh : Int) : Int := if nextInB i0 t0 l0 l1 l2 pl ql ex et ec es ek ea eb eg eh = true then appI l0 l1 l2 pl ql ex et ec es ek ea eb eg eh else -1

theorem ef_pairs_right {l : List Pr} (h : pairsB l = true) : ∀ p ∈ l, rightB p.k p.v = true := fun p hp => by
  obtain ⟨i, hi, rfl⟩ := List.getElem_of_mem hp
  have := pairsB_all h i hi
  simp only [List.getD, List.getElem?_eq_getElem hi, Option.getD_some, pairAt, Bool.and_eq_true] at this
  unfold rightB
  rw [this.1, this.2.1]
  rfl
theorem ef_pairs_mk {l : List Pr} (h : l.Pairwise (fun p q => p.k < q.k)) (hr : ∀ p ∈ l, rightB p.k p.v = true) : pairsB l = true := by
  refine all_range_true (fun i hi => ?_)
  have h1 := hr l[i] (List.getElem_mem hi)
  unfold rightB at h1
  simp only [Bool.and_eq_true] at h1
  unfold pairAt
  have e1 : l.getD i default = l[i] := by simp [List.getD, hi]
  rw [e1, h1.1, h1.2]
  by_cases h0 : i = 0
  · simp [h0]
  · have e2 : l.getD (i - 1) default = l[i - 1] := by simp [List.getD, show i - 1 < l.length by omega]
    have := List.pairwise_iff_getElem.1 h (i - 1) i (by omega) hi (by omega)
    rw [e2, decide_eq_true this]
    simp
theorem ef_put_ok {l : List Pr} {key v : Int} (h : pairsB l = true) : pairsB (putR l key v).1 = true := by
  unfold putR
  rw [if_pos h]
  split
  · rename_i hr
    exact ef_pairs_mk (putL_lt key v (pairs_lt h)) (fun p hp => by
      rcases putL_mem hp with rfl | hp
      · exact hr
      · exact ef_pairs_right h p hp)
  · exact h
theorem ef_cut_ok {l : List Pr} {key : Int} (h : pairsB l = true) : pairsB (cutR l key).1 = true := by
  unfold cutR
  rw [if_pos h]
  exact ef_pairs_mk ((pairs_lt h).filter _) (fun p hp => ef_pairs_right h p (List.mem_filter.1 hp).1)
theorem ef_cut_is {l : List Pr} {key : Int} (h : pairsB l = true) : (valueAtB l key).2 = (cutR l key).2 := by
  unfold valueAtB cutR valAt
  rw [if_pos h, if_pos h]
  by_cases hk : keyIx l key < l.length
  · rw [if_pos hk, cutL_hit h hk]
    exact (decide_eq_true (by omega)).symm
  · rw [if_neg hk, cutL_miss hk]
    exact (decide_eq_false (by omega)).symm
theorem ef_jobs_mk {l : List Jb} (h8 : l.length ≤ 8) (h : l.Pairwise (fun p q => p.i < q.i)) (hr : ∀ p ∈ l, jobOkB p = true) (hf : l.Pairwise (fun p q => 0 < q.f → p.f ≠ q.f)) : jobsB l = true := by
  refine jobsB_true h8 (fun j hj => ?_)
  have e1 : l.getD j default = l[j] := by simp [List.getD, hj]
  unfold jobAtB
  rw [e1, hr l[j] (List.getElem_mem hj)]
  have h1 : (decide (j = 0) || decide ((l.getD (j - 1) default).i < (l[j]).i)) = true := by
    by_cases h0 : j = 0
    · simp [h0]
    · have e2 : l.getD (j - 1) default = l[j - 1] := by simp [List.getD, show j - 1 < l.length by omega]
      have := List.pairwise_iff_getElem.1 h (j - 1) j (by omega) hj (by omega)
      rw [e2, decide_eq_true this]
      simp
  have h2 : (decide (0 < (l[j]).f) && firedBefore l j (l[j]).f) = false := by
    by_cases h0 : 0 < (l[j]).f
    · rw [firedBefore_false (fun k hk => by
        have e3 : l.getD k default = l[k] := by simp [List.getD, show k < l.length by omega]
        rw [e3]
        exact List.pairwise_iff_getElem.1 hf k j (by omega) hj hk h0)]
      simp
    · rw [decide_eq_false h0]
      rfl
  rw [h1, h2]
  rfl
theorem ef_jobs_f {l : List Jb} (h : jobsB l = true) : l.Pairwise (fun p q => 0 < q.f → p.f ≠ q.f) := by
  rw [List.pairwise_iff_getElem]
  intro i j hi hj hij h0 he
  have := (jobsB_all h).2 j hj
  unfold jobAtB at this
  simp only [Bool.and_eq_true, Bool.not_eq_true', Bool.and_eq_false_iff, decide_eq_false_iff_not] at this
  have e1 : l.getD j default = l[j] := by simp [List.getD, hj]
  have e2 : l.getD i default = l[i] := by simp [List.getD, hi]
  rw [e1] at this
  rcases this.2.2 with h1 | h1
  · exact h1 h0
  · rw [firedBefore_true hij (by rw [e2]; exact he)] at h1
    cases h1
theorem ef_jobs_ok {l : List Jb} (h : jobsB l = true) : ∀ p ∈ l, jobOkB p = true := fun p hp => by
  obtain ⟨i, hi, rfl⟩ := List.getElem_of_mem hp
  have := jobAtB_ok ((jobsB_all h).2 i hi)
  simpa only [List.getD, List.getElem?_eq_getElem hi, Option.getD_some] using this
theorem ef_addL_pw {R : Jb → Jb → Prop} {l : List Jb} {x : Jb} (h : l.Pairwise R) (h1 : ∀ p ∈ l, R p x) (h2 : ∀ p ∈ l, R x p) : (addL l x).Pairwise R := by
  induction l with
  | nil => simp [addL]
  | cons p t ih =>
    rw [List.pairwise_cons] at h
    rw [addL]
    split
    · rw [List.pairwise_cons]
      refine ⟨fun q hq => ?_, ih h.2 (fun q hq => h1 q (by simp [hq])) (fun q hq => h2 q (by simp [hq]))⟩
      rcases addL_mem hq with rfl | hq
      · exact h1 p (by simp)
      · exact h.1 q hq
    · rw [List.pairwise_cons, List.pairwise_cons]
      exact ⟨fun q hq => h2 q hq, h⟩
theorem ef_fired_iff {l : List Jb} {i : Int} : firedIn l i = true ↔ ∀ p ∈ l, p.f ≤ i := by
  unfold firedIn
  rw [List.all_eq_true]
  constructor
  · intro h p hp
    obtain ⟨k, hk, rfl⟩ := List.getElem_of_mem hp
    have := h k (List.mem_range.2 hk)
    simpa only [List.getD, List.getElem?_eq_getElem hk, Option.getD_some, decide_eq_true_eq] using this
  · intro h k hk
    rw [List.mem_range] at hk
    have := h l[k] (List.getElem_mem hk)
    simpa only [List.getD, List.getElem?_eq_getElem hk, Option.getD_some, decide_eq_true_eq] using this
theorem ef_add_ok {l : List Jb} {x : Jb} (h : jobsB l = true) : jobsB (addR l x).1 = true := by
  unfold addR
  rw [if_pos h]
  split
  · rename_i ha
    unfold addOk at ha
    simp only [Bool.and_eq_true, decide_eq_true_eq, Bool.not_eq_true'] at ha
    obtain ⟨hj, hf, ht, hl⟩ := ha
    refine ef_jobs_mk (by rw [addL_len]; omega) (addL_lt (jobs_lt h) (jobAtV_there ht)) (fun p hp => ?_) (ef_addL_pw (ef_jobs_f h) (fun p _ h0 => by omega) (fun p _ h0 => by omega))
    rcases addL_mem hp with rfl | hp
    · exact hj
    · exact ef_jobs_ok h p hp
  · exact h
theorem ef_add_in {l : List Jb} {x : Jb} {i : Int} (h : firedIn l i = true) (hx : x.f ≤ i) : firedIn (addR l x).1 i = true := by
  unfold addR
  split
  · split
    · rw [ef_fired_iff] at h ⊢
      intro p hp
      rcases addL_mem hp with rfl | hp
      · exact hx
      · exact h p hp
    · exact h
  · rw [ef_fired_iff]; simp
theorem ef_fire_ok {l : List Jb} {id x : Int} (h : jobsB l = true) : jobsB (firedR l id x).1 = true := by
  unfold firedR
  rw [if_pos h]
  split
  · rename_i ho
    exact fset_ok h ho
  · exact h
theorem ef_fire_in {l : List Jb} {id x i : Int} (h : firedIn l i = true) (hx : x ≤ i) : firedIn (firedR l id x).1 i = true := by
  unfold firedR
  split
  · split
    · rename_i ho
      obtain ⟨hk, _⟩ := firedOk_parts ho
      unfold firedIn at h ⊢
      rw [List.all_eq_true] at h ⊢
      intro j hj
      rw [List.mem_range, fset_len] at hj
      rw [fset_get l _ x hk]
      split
      · exact decide_eq_true hx
      · exact h j (List.mem_range.2 hj)
    · exact h
  · rw [ef_fired_iff]; simp
theorem ef_fired_mono {l : List Jb} {i j : Int} (h : firedIn l i = true) (hij : i ≤ j) : firedIn l j = true := by
  rw [ef_fired_iff] at h ⊢
  exact fun p hp => Int.le_trans (h p hp) hij
theorem ef_who_iff (x : Int) : whoB x = true ↔ x = 2 ∨ x = 3 := by unfold whoB; simp
theorem ef_lease_mk {h e u : Int} (h1 : h = 2 ∨ h = 3) (h2 : 1 ≤ e ∧ e ≤ 1000) (h3 : 1 ≤ u ∧ u ≤ 1001000) : leaseB h e u = true := by
  unfold leaseB
  rw [(ef_who_iff h).2 h1, (inB_iff _ _ _).2 h2, (inB_iff _ _ _).2 h3]
  simp
theorem ef_grant_ok {h e u who t long : Int} (hl : leaseB h e u = true) : leaseB (grantL h e u who t long).1.1 (grantL h e u who t long).1.2.1 (grantL h e u who t long).1.2.2 = true := by
  have hb : (h = 0 ∧ e = 0 ∧ u = 0) ∨ ((h = 2 ∨ h = 3) ∧ 1 ≤ e ∧ e ≤ 1000 ∧ 1 ≤ u ∧ u ≤ 1001000) := by
    have hl' := hl
    unfold leaseB at hl'
    simp only [Bool.or_eq_true, Bool.and_eq_true, decide_eq_true_eq, inB_iff, ef_who_iff] at hl'
    rcases hl' with hl' | hl'
    · exact .inl hl'
    · exact .inr ⟨hl'.1, hl'.2.1.1, hl'.2.1.2, hl'.2.2.1, hl'.2.2.2⟩
  unfold grantL
  rw [if_pos hl]
  split
  · rename_i hw
    simp only [Bool.and_eq_true, inB_iff, ef_who_iff] at hw
    split
    · rename_i he
      exact ef_lease_mk (by simp only; omega) (by simp only; omega) (by simp only; omega)
    · split
      · rename_i hg
        simp only [Bool.and_eq_true, decide_eq_true_eq] at hg
        exact ef_lease_mk (by simp only; omega) (by simp only; omega) (by simp only; omega)
      · exact hl
  · exact hl
theorem stateB_all {i0 t0 l0 l1 l2 : Int} {pl : List Pr} {ql : List Jb} (h : stateB i0 t0 l0 l1 l2 pl ql = true) : (0 ≤ i0 ∧ i0 ≤ 2000) ∧ (0 ≤ t0 ∧ t0 ≤ 1000000) ∧ pairsB pl = true ∧ jobsB ql = true ∧ leaseB l0 l1 l2 = true ∧ firedIn ql i0 = true := by
  unfold stateB at h
  simp only [Bool.and_eq_true, inB_iff] at h
  exact ⟨h.1, h.2.1, h.2.2.1, h.2.2.2.1, h.2.2.2.2.1, h.2.2.2.2.2⟩
theorem stateB_mk {i0 t0 l0 l1 l2 : Int} {pl : List Pr} {ql : List Jb} (h1 : 0 ≤ i0 ∧ i0 ≤ 2000) (h2 : 0 ≤ t0 ∧ t0 ≤ 1000000) (h3 : pairsB pl = true) (h4 : jobsB ql = true) (h5 : leaseB l0 l1 l2 = true) (h6 : firedIn ql i0 = true) : stateB i0 t0 l0 l1 l2 pl ql = true := by
  unfold stateB
  rw [(inB_iff _ _ _).2 h1, (inB_iff _ _ _).2 h2, h3, h4, h5, h6]
  rfl
theorem nextB_parts {i0 t0 ex et ec es ek ea eb eg eh : Int} (h : nextB i0 t0 ex et ec es ek ea eb eg eh = true) : (1 ≤ ex ∧ ex ≤ 2000) ∧ (0 ≤ et ∧ et ≤ 1000000) ∧ (2 ≤ ec ∧ ec ≤ 5) ∧ (1 ≤ es ∧ es ≤ 2000) ∧ opB ek ea eb eg eh = true ∧ ex = i0 + 1 ∧ t0 ≤ et := by
  unfold nextB entryB at h
  simp only [Bool.and_eq_true, inB_iff, beq_iff_eq, decide_eq_true_eq] at h
  exact ⟨h.1.1, h.1.2.1, h.1.2.2.1, h.1.2.2.2.1, h.1.2.2.2.2, h.2.1, h.2.2⟩
theorem opB_kind {k a b c d : Int} (h : opB k a b c d = true) : k = 1 ∨ k = 2 ∨ k = 3 ∨ k = 4 ∨ k = 5 := by
  unfold opB at h
  repeat' split at h
  all_goals first | omega | (exact absurd h (by decide))
theorem eff_ok {i0 t0 l0 l1 l2 : Int} {pl : List Pr} {ql : List Jb} {ex et ec es ek ea eb eg eh : Int} (h : stateB i0 t0 l0 l1 l2 pl ql = true) (hn : nextB i0 t0 ex et ec es ek ea eb eg eh = true) :
    stateB ex et (effE l0 l1 l2 pl ql ex et ec es ek ea eb eg eh).1.h (effE l0 l1 l2 pl ql ex et ec es ek ea eb eg eh).1.e (effE l0 l1 l2 pl ql ex et ec es ek ea eb eg eh).1.u (effE l0 l1 l2 pl ql ex et ec es ek ea eb eg eh).1.p (effE l0 l1 l2 pl ql ex et ec es ek ea eb eg eh).1.q = true := by
  obtain ⟨a1, a2, a3, a4, a5, a6⟩ := stateB_all h
  obtain ⟨b1, b2, b3, b4, b5, b6, b7⟩ := nextB_parts hn
  have a6' := ef_fired_mono (j := ex) a6 (by omega)
  have c1 : 0 ≤ ex ∧ ex ≤ 2000 := by omega
  unfold effE
  split
  · exact stateB_mk c1 b2 (ef_put_ok a3) a4 a5 a6'
  · split
    · exact stateB_mk c1 b2 (ef_cut_ok a3) a4 a5 a6'
    · split
      · exact stateB_mk c1 b2 a3 (ef_add_ok a4) a5 (ef_add_in a6' (by simp only; omega))
      · split
        · split
          · exact stateB_mk c1 b2 (ef_put_ok a3) (ef_fire_ok a4) a5 (ef_fire_in a6' (Int.le_refl _))
          · exact stateB_mk c1 b2 a3 a4 a5 a6'
        · exact stateB_mk c1 b2 a3 a4 (ef_grant_ok a5) a6'
/-- The next entry of a valid state leads to a valid state. -/
theorem app_ok {i0 t0 l0 l1 l2 : Int} {pl : List Pr} {ql : List Jb} {ex et ec es ek ea eb eg eh : Int} (h : stateB i0 t0 l0 l1 l2 pl ql = true) (hn : nextB i0 t0 ex et ec es ek ea eb eg eh = true) :
    stateB ex et (appE l0 l1 l2 pl ql ex et ec es ek ea eb eg eh).h (appE l0 l1 l2 pl ql ex et ec es ek ea eb eg eh).e (appE l0 l1 l2 pl ql ex et ec es ek ea eb eg eh).u (appE l0 l1 l2 pl ql ex et ec es ek ea eb eg eh).p (appE l0 l1 l2 pl ql ex et ec es ek ea eb eg eh).q = true := by
  unfold appE
  split
  · exact eff_ok h hn
  · obtain ⟨a1, a2, a3, a4, a5, a6⟩ := stateB_all h
    obtain ⟨b1, b2, b3, b4, b5, b6, b7⟩ := nextB_parts hn
    exact stateB_mk (by omega) b2 a3 a4 a5 (ef_fired_mono a6 (by omega))
theorem stateB_lens {i0 t0 l0 l1 l2 : Int} {pl : List Pr} {ql : List Jb} (h : stateB i0 t0 l0 l1 l2 pl ql = true) : pl.length ≤ 10 ∧ ql.length ≤ 8 := by
  obtain ⟨a1, a2, a3, a4, a5, a6⟩ := stateB_all h
  exact ⟨pairsB_len a3, (jobsB_all a4).1⟩
/-- The reference's tests, kind by kind. -/
theorem put_does {i0 t0 l0 l1 l2 : Int} {pl : List Pr} {ql : List Jb} {ex et ec es ea eb eg eh : Int} (h : stateB i0 t0 l0 l1 l2 pl ql = true) (hn : nextB i0 t0 ex et ec es 1 ea eb eg eh = true) : (putR pl ea eb).2 = true := by
  obtain ⟨a1, a2, a3, a4, a5, a6⟩ := stateB_all h
  obtain ⟨b1, b2, b3, b4, b5, b6, b7⟩ := nextB_parts hn
  unfold opB at b5
  rw [if_pos rfl] at b5
  simp only [Bool.and_eq_true] at b5
  unfold putR
  rw [if_pos a3, if_pos (by unfold rightB; rw [b5.1, b5.2.1]; rfl)]
theorem job_id {ql : List Jb} {ea : Int} (h : (jobAtV ql ea).2 = true) : (jobAtV ql ea).1.i = ea := by
  unfold jobAtV at h ⊢
  by_cases hk : jobIx ql ea < ql.length
  · rw [if_pos hk]
    exact jobIx_hit hk
  · rw [if_neg hk] at h
    cases h
theorem fires_id {l0 l1 l2 : Int} {ql : List Jb} {et ec ek ea eb : Int} (h : firesB l0 l1 l2 ql et ec ek ea eb = true) : (jobAtV ql ea).1.i = ea ∧ (jobAtV ql ea).2 = true := by
  unfold firesB at h
  simp only [Bool.and_eq_true] at h
  exact ⟨job_id h.2.1, h.2.1⟩
end Go.Proofs.YtokklkmibjpjnaaGreat
namespace Go.Proofs.YtokklkmibjpjnaaGreat
set_option linter.unusedSimpArgs false
set_option linter.unusedVariables false
attribute [local go_sem] n_lt2 n_lt3 n_lt4 n_le2 n_le3
open Go.RowKit
attribute [local go_sem] Ext.cell Ext.frozen
/-- A state of the call's own, and another value. -/
def RetStateV (w : World) (i0 t0 l0 l1 l2 : Int) (n : Nat) (zp : List Int) (m : Nat) (zq : List Int) (x : Value) (en : Ending) (w' : World) : Prop :=
  ∃ A c B d, en = .returned (.tuple #[.agg #[.int .i64 i0, .int .i64 t0, .slice A n c, .slice B m d, .int .i64 l0, .int .i64 l1, .int .i64 l2], x]) ∧ Row w' w.heap.size 106 2 A n c zp ∧ Row w' w.heap.size 71 5 B m d zq ∧ (∀ a b, A = some a → B = some b → a.block ≠ b.block) ∧ Below w.heap.size w w'
theorem tb_dr {v w' : World} (h : Below v.drew.heap.size v.drew w') : Below v.heap.size v w' := ⟨h.os, h.tape, h.output, h.size, h.block⟩
theorem tb_al {v w' : World} {x : Obj} (h : Below (v.alloc x).heap.size (v.alloc x) w') : Below v.heap.size v w' := bthen ((Below.refl _ _).alloc (Nat.le_refl _) _) h
theorem tb_da {v w' : World} {x : Obj} (h : Below (v.alloc x).drew.heap.size (v.alloc x).drew w') : Below v.heap.size v w' := tb_al (tb_dr h)
theorem tb_ad {v w' : World} {x : Obj} (h : Below (v.drew.alloc x).heap.size (v.drew.alloc x) w') : Below v.heap.size v w' := tb_dr (tb_al h)
theorem t_drew_size (v : World) : v.heap.size = v.drew.heap.size := rfl
theorem t_below2 {w w' : World} {g : Nat} {e : TypeId} {cs : Array Value} (hb : Below w.heap.size w w') (h : Blk w g e cs) : Blk w' g e cs := h.below hb
theorem t_size_alloc (v : World) (x : Obj) : (v.alloc x).heap.size = v.heap.size + 1 := by simp
theorem hn_drew {W v : World} {s k : Nat} (h : ∀ b o, b < s → b ≠ k → v.cell? ⟨b, o, none⟩ = W.cell? ⟨b, o, none⟩) : ∀ b o, b < s → b ≠ k → v.drew.cell? ⟨b, o, none⟩ = W.cell? ⟨b, o, none⟩ := h
theorem hn_set {W v : World} {s k : Nat} (h : ∀ b o, b < s → b ≠ k → v.cell? ⟨b, o, none⟩ = W.cell? ⟨b, o, none⟩) (j : Nat) (y : Value) : ∀ b o, b < s → b ≠ k → (v.setCell ⟨k, j, none⟩ y).cell? ⟨b, o, none⟩ = W.cell? ⟨b, o, none⟩ := fun b o hb hk => (World.cell?_setCell_far _ _ _ _ (by show k ≠ b; omega)).trans (h b o hb hk)
theorem hn_set7 {W v : World} {s k : Nat} (h : ∀ b o, b < s → b ≠ k → v.cell? ⟨b, o, none⟩ = W.cell? ⟨b, o, none⟩) (y0 y1 y2 y3 y4 y5 y6 : Value) : ∀ b o, b < s → b ≠ k → (((((((v.setCell ⟨k, 0, none⟩ y0).setCell ⟨k, 1, none⟩ y1).setCell ⟨k, 2, none⟩ y2).setCell ⟨k, 3, none⟩ y3).setCell ⟨k, 4, none⟩ y4).setCell ⟨k, 5, none⟩ y5).setCell ⟨k, 6, none⟩ y6).cell? ⟨b, o, none⟩ = W.cell? ⟨b, o, none⟩ := hn_set (hn_set (hn_set (hn_set (hn_set (hn_set (hn_set h 0 y0) 1 y1) 2 y2) 3 y3) 4 y4) 5 y5) 6 y6
theorem row_far7 {w : World} {lo g E s : Nat} {A : Option Addr} {n c : Nat} {zs : List Int} (R : Row w lo E s A n c zs) (h : ∀ a, A = some a → a.block ≠ g) (y0 y1 y2 y3 y4 y5 y6 : Value) : Row (((((((w.setCell ⟨g, 0, none⟩ y0).setCell ⟨g, 1, none⟩ y1).setCell ⟨g, 2, none⟩ y2).setCell ⟨g, 3, none⟩ y3).setCell ⟨g, 4, none⟩ y4).setCell ⟨g, 5, none⟩ y5).setCell ⟨g, 6, none⟩ y6) lo E s A n c zs := ((((((R.far (p := ⟨g, 0, none⟩) h _).far (p := ⟨g, 1, none⟩) h _).far (p := ⟨g, 2, none⟩) h _).far (p := ⟨g, 3, none⟩) h _).far (p := ⟨g, 4, none⟩) h _).far (p := ⟨g, 5, none⟩) h _).far (p := ⟨g, 6, none⟩) h _
theorem sl_far7 {w : World} {g s : Nat} {A : Option Addr} {n : Nat} {zs : List Int} (R : Sl w s A n zs) (h : 0 < n → ∀ a, A = some a → a.block ≠ g) (y0 y1 y2 y3 y4 y5 y6 : Value) : Sl (((((((w.setCell ⟨g, 0, none⟩ y0).setCell ⟨g, 1, none⟩ y1).setCell ⟨g, 2, none⟩ y2).setCell ⟨g, 3, none⟩ y3).setCell ⟨g, 4, none⟩ y4).setCell ⟨g, 5, none⟩ y5).setCell ⟨g, 6, none⟩ y6) s A n zs := ((((((R.far (p := ⟨g, 0, none⟩) h _).far (p := ⟨g, 1, none⟩) h _).far (p := ⟨g, 2, none⟩) h _).far (p := ⟨g, 3, none⟩) h _).far (p := ⟨g, 4, none⟩) h _).far (p := ⟨g, 5, none⟩) h _).far (p := ⟨g, 6, none⟩) h _
theorem below_far7 {w0 w : World} {lo g : Nat} (B : Below lo w0 w) (h : lo ≤ g) (y0 y1 y2 y3 y4 y5 y6 : Value) : Below lo w0 (((((((w.setCell ⟨g, 0, none⟩ y0).setCell ⟨g, 1, none⟩ y1).setCell ⟨g, 2, none⟩ y2).setCell ⟨g, 3, none⟩ y3).setCell ⟨g, 4, none⟩ y4).setCell ⟨g, 5, none⟩ y5).setCell ⟨g, 6, none⟩ y6) := ((((((B.setCell (p := ⟨g, 0, none⟩) h _).setCell (p := ⟨g, 1, none⟩) h _).setCell (p := ⟨g, 2, none⟩) h _).setCell (p := ⟨g, 3, none⟩) h _).setCell (p := ⟨g, 4, none⟩) h _).setCell (p := ⟨g, 5, none⟩) h _).setCell (p := ⟨g, 6, none⟩) h _
set_option maxHeartbeats 1000000 in
theorem effects_any (w : World) : Calls Tryz.prog 82 #[] w fun e w' => e = .returned (.agg #[.nilFunc, .func (.func 97) #[] #[], .func (.func 99) #[] #[], .func (.func 101) #[] #[], .func (.func 103) #[] #[], .func (.func 107) #[] #[]]) ∧ Below w.heap.size w w' := by
  go_enter Tryz.func82, Tryz.ntmps82
  go_wp21
  refine bodyPost_ret (v := .agg #[.nilFunc, .func (.func 97) #[] #[], .func (.func 99) #[] #[], .func (.func 101) #[] #[], .func (.func 103) #[] #[], .func (.func 107) #[] #[]]) (by simp [results, Tryz.results82, go_sem, *]) rfl ?_
  exact ⟨rfl, by (repeat' (first | (with_reducible exact Below.refl _ _) | (with_reducible assumption) | (with_reducible refine Below.alloc ?_ ?_ _) | (with_reducible refine Below.drew ?_) | (with_reducible refine Below.setCell ?_ ?_ _) | (with_reducible refine bstep (by assumption) ?_ ?_) | (with_reducible exact Nat.le_refl _) | omega | (simp [*]; done) | (simp [*]; omega)))⟩
theorem eff1_R (A : Option Addr) (n c : Nat) (B : Option Addr) (m d : Nat) (i0 t0 l0 l1 l2 : Int) (pl : List Pr) (ql : List Jb) (ex et ec es ea eb eg eh : Int) (w : World) (hP : Sl w 2 A n (PR pl)) (hQ : Sl w 5 B m (JB ql)) (hl : pl.length = n) (hr : ql.length = m) (hn : n ≤ maxLen) (hm : m ≤ maxLen) (hA : A = none → n = 0 ∧ c = 0) (hB : B = none → m = 0 ∧ d = 0) (lo : Nat) (hPl : 0 < n → LtB A lo) (hQl : 0 < m → LtB B lo) (p2 : List Pr) (q2 : List Jb) (h2 e2 u2 : Int) (ok : Bool) (hE : Hid (effE l0 l1 l2 pl ql ex et ec es 1 ea eb eg eh = (⟨p2, q2, h2, e2, u2⟩, ok))) :
    Calls Tryz.prog 97 #[.agg #[.int .i64 i0, .int .i64 t0, .slice A n c, .slice B m d, .int .i64 l0, .int .i64 l1, .int .i64 l2], .agg #[.int .i64 ex, .int .i64 et, .int .i64 ec, .int .i64 es, .int .i64 1, .int .i64 ea, .int .i64 eb, .int .i64 eg, .int .i64 eh]] w (RetEff w lo i0 t0 p2 q2 h2 e2 u2 ok) := by
  have hE := hE.out
  unfold effE at hE
  rw [if_pos rfl] at hE
  injection hE with h1 h5
  injection h1 with h1 h2 h3 h4 h6
  subst h1 h2 h3 h4 h6 h5
  exact eff1_any A n c B m d i0 t0 l0 l1 l2 pl ql ex et ec es 1 ea eb eg eh w hP hQ hl hr hn hm hA hB lo hPl hQl
theorem eff2_R (A : Option Addr) (n c : Nat) (B : Option Addr) (m d : Nat) (i0 t0 l0 l1 l2 : Int) (pl : List Pr) (ql : List Jb) (ex et ec es ea eb eg eh : Int) (w : World) (hP : Sl w 2 A n (PR pl)) (hQ : Sl w 5 B m (JB ql)) (hl : pl.length = n) (hr : ql.length = m) (hn : n ≤ maxLen) (hm : m ≤ maxLen) (hA : A = none → n = 0 ∧ c = 0) (hB : B = none → m = 0 ∧ d = 0) (lo : Nat) (hPl : 0 < n → LtB A lo) (hQl : 0 < m → LtB B lo) (p2 : List Pr) (q2 : List Jb) (h2 e2 u2 : Int) (ok : Bool) (hE : Hid (effE l0 l1 l2 pl ql ex et ec es 2 ea eb eg eh = (⟨p2, q2, h2, e2, u2⟩, ok))) :
    Calls Tryz.prog 99 #[.agg #[.int .i64 i0, .int .i64 t0, .slice A n c, .slice B m d, .int .i64 l0, .int .i64 l1, .int .i64 l2], .agg #[.int .i64 ex, .int .i64 et, .int .i64 ec, .int .i64 es, .int .i64 2, .int .i64 ea, .int .i64 eb, .int .i64 eg, .int .i64 eh]] w (RetEff w lo i0 t0 p2 q2 h2 e2 u2 ok) := by
  have hE := hE.out
  unfold effE at hE
  rw [if_neg (by decide), if_pos rfl] at hE
  injection hE with h1 h5
  injection h1 with h1 h2 h3 h4 h6
  subst h1 h2 h3 h4 h6 h5
  exact eff2_any A n c B m d i0 t0 l0 l1 l2 pl ql ex et ec es 2 ea eb eg eh w hP hQ hl hr hn hm hA hB lo hPl hQl
theorem eff3_R (A : Option Addr) (n c : Nat) (B : Option Addr) (m d : Nat) (i0 t0 l0 l1 l2 : Int) (pl : List Pr) (ql : List Jb) (ex et ec es ea eb eg eh : Int) (w : World) (hP : Sl w 2 A n (PR pl)) (hQ : Sl w 5 B m (JB ql)) (hl : pl.length = n) (hr : ql.length = m) (hn : n ≤ maxLen) (hm : m ≤ maxLen) (hA : A = none → n = 0 ∧ c = 0) (hB : B = none → m = 0 ∧ d = 0) (lo : Nat) (hPl : 0 < n → LtB A lo) (hQl : 0 < m → LtB B lo) (p2 : List Pr) (q2 : List Jb) (h2 e2 u2 : Int) (ok : Bool) (hE : Hid (effE l0 l1 l2 pl ql ex et ec es 3 ea eb eg eh = (⟨p2, q2, h2, e2, u2⟩, ok))) :
    Calls Tryz.prog 101 #[.agg #[.int .i64 i0, .int .i64 t0, .slice A n c, .slice B m d, .int .i64 l0, .int .i64 l1, .int .i64 l2], .agg #[.int .i64 ex, .int .i64 et, .int .i64 ec, .int .i64 es, .int .i64 3, .int .i64 ea, .int .i64 eb, .int .i64 eg, .int .i64 eh]] w (RetEff w lo i0 t0 p2 q2 h2 e2 u2 ok) := by
  have hE := hE.out
  unfold effE at hE
  rw [if_neg (by decide), if_neg (by decide), if_pos rfl] at hE
  injection hE with h1 h5
  injection h1 with h1 h2 h3 h4 h6
  subst h1 h2 h3 h4 h6 h5
  exact eff3_any A n c B m d i0 t0 l0 l1 l2 pl ql ex et ec es 3 ea eb eg eh w hP hQ hl hr hn hm hA hB lo hPl hQl
theorem eff4_R (A : Option Addr) (n c : Nat) (B : Option Addr) (m d : Nat) (i0 t0 l0 l1 l2 : Int) (pl : List Pr) (ql : List Jb) (ex et ec es ea eb eg eh : Int) (w : World) (hP : Sl w 2 A n (PR pl)) (hQ : Sl w 5 B m (JB ql)) (hl : pl.length = n) (hr : ql.length = m) (hn : n ≤ maxLen) (hm : m ≤ maxLen) (hA : A = none → n = 0 ∧ c = 0) (hB : B = none → m = 0 ∧ d = 0) (lo : Nat) (hPl : 0 < n → LtB A lo) (hQl : 0 < m → LtB B lo) (p2 : List Pr) (q2 : List Jb) (h2 e2 u2 : Int) (ok : Bool) (hE : Hid (effE l0 l1 l2 pl ql ex et ec es 4 ea eb eg eh = (⟨p2, q2, h2, e2, u2⟩, ok))) :
    Calls Tryz.prog 103 #[.agg #[.int .i64 i0, .int .i64 t0, .slice A n c, .slice B m d, .int .i64 l0, .int .i64 l1, .int .i64 l2], .agg #[.int .i64 ex, .int .i64 et, .int .i64 ec, .int .i64 es, .int .i64 4, .int .i64 ea, .int .i64 eb, .int .i64 eg, .int .i64 eh]] w (RetEff w lo i0 t0 p2 q2 h2 e2 u2 ok) := by
  have hE := hE.out
  unfold effE at hE
  rw [if_neg (by decide), if_neg (by decide), if_neg (by decide), if_pos rfl] at hE
  cases hf : firesB l0 l1 l2 ql et ec 4 ea eb with
  | false =>
    rw [if_neg (by rw [hf]; decide)] at hE
    injection hE with h1 h5
    injection h1 with h1 h2 h3 h4 h6
    subst h1 h2 h3 h4 h6 h5
    exact eff4_no A n c B m d i0 t0 l0 l1 l2 pl ql ex et ec es 4 ea eb eg eh w hP hQ hl hr hn hm hA hB lo hPl hQl pl ql l0 l1 l2 (Lib.hid hf)
  | true =>
    rw [if_pos hf] at hE
    injection hE with h1 h5
    injection h1 with h1 h2 h3 h4 h6
    subst h1 h2 h3 h4 h6 h5
    exact eff4_yes A n c B m d i0 t0 l0 l1 l2 pl ql ex et ec es 4 ea eb eg eh w hP hQ hl hr hn hm hA hB lo hPl hQl _ _ _ _ (putR pl (jobAtV ql ea).1.k (jobAtV ql ea).1.v).2 (firedR ql (jobAtV ql ea).1.i ex).2 (jobAtV ql ea).1.i (jobAtV ql ea).1.d (jobAtV ql ea).1.k (jobAtV ql ea).1.v (jobAtV ql ea).1.f (jobAtV ql ea).2 (Lib.hid hf) (Lib.hid rfl) (Lib.hid rfl) (Lib.hid rfl) (Lib.hid rfl) (Lib.hid rfl)
theorem eff5_R (A : Option Addr) (n c : Nat) (B : Option Addr) (m d : Nat) (i0 t0 l0 l1 l2 : Int) (pl : List Pr) (ql : List Jb) (ex et ec es ea eb eg eh : Int) (w : World) (hP : Sl w 2 A n (PR pl)) (hQ : Sl w 5 B m (JB ql)) (hl : pl.length = n) (hr : ql.length = m) (hn : n ≤ maxLen) (hm : m ≤ maxLen) (hA : A = none → n = 0 ∧ c = 0) (hB : B = none → m = 0 ∧ d = 0) (lo : Nat) (hPl : 0 < n → LtB A lo) (hQl : 0 < m → LtB B lo) (p2 : List Pr) (q2 : List Jb) (h2 e2 u2 : Int) (ok : Bool) (hE : Hid (effE l0 l1 l2 pl ql ex et ec es 5 ea eb eg eh = (⟨p2, q2, h2, e2, u2⟩, ok))) :
    Calls Tryz.prog 107 #[.agg #[.int .i64 i0, .int .i64 t0, .slice A n c, .slice B m d, .int .i64 l0, .int .i64 l1, .int .i64 l2], .agg #[.int .i64 ex, .int .i64 et, .int .i64 ec, .int .i64 es, .int .i64 5, .int .i64 ea, .int .i64 eb, .int .i64 eg, .int .i64 eh]] w (RetEff w lo i0 t0 p2 q2 h2 e2 u2 ok) := by
  have hE := hE.out
  unfold effE at hE
  rw [if_neg (by decide), if_neg (by decide), if_neg (by decide), if_neg (by decide)] at hE
  injection hE with h1 h5
  injection h1 with h1 h2 h3 h4 h6
  subst h1 h2 h3 h4 h6 h5
  exact eff5_any A n c B m d i0 t0 l0 l1 l2 pl ql ex et ec es 5 ea eb eg eh w hP hQ hl hr hn hm hA hB lo hPl hQl
theorem RetStateV.mk {w w' : World} {i0 t0 l0 l1 l2 : Int} {n m n1 m1 : Nat} {zp zq : List Int} {x : Value} {A B : Option Addr} {c d : Nat} (h1 : n = n1) (h2 : m = m1) (RP : Row w' w.heap.size 106 2 A n1 c zp) (RQ : Row w' w.heap.size 71 5 B m1 d zq) (h : ∀ a b, A = some a → B = some b → a.block ≠ b.block) (b : Below w.heap.size w w') :
    RetStateV w i0 t0 l0 l1 l2 n zp m zq x (.returned (.tuple #[.agg #[.int .i64 i0, .int .i64 t0, .slice A n1 c, .slice B m1 d, .int .i64 l0, .int .i64 l1, .int .i64 l2], x])) w' := by
  subst h1 h2
  exact ⟨A, c, B, d, rfl, RP, RQ, h, b⟩
end Go.Proofs.YtokklkmibjpjnaaGreat
