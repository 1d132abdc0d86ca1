/- JobAdded: the program's and the reference's. -/
import Derived.Test.YtgpllffiahccjaaJ8
import Derived.Test.YtgpllffiahccjaaInsJ
import Derived.Test.YtgpllffiahccjaaJ6
namespace Go.Proofs.Ytgpllffiahccjaa
set_option linter.unusedSimpArgs false
set_option linter.unusedVariables false
attribute [local go_sem] n_lt2 n_lt3 n_lt4 n_le2 n_le3
open Go.RowKit
attribute [local go_sem] Ext.cell Ext.frozen

theorem addR_no {l : List Jb} {x : Jb} (h : jobsB l = true) (hn : addOk l x = false) : addR l x = (l, false) := by unfold addR; rw [if_pos h, if_neg (by rw [hn]; decide)]
theorem addR_yes {l : List Jb} {x : Jb} (h : jobsB l = true) (hn : addOk l x = true) : addR l x = (addL l x, true) := by unfold addR; rw [if_pos h, if_pos hn]
theorem boxed5 {w : World} {g : Nat} {E : TypeId} {a b c d e : Int} (K : Blk w g E #[.int .i64 a, .int .i64 b, .int .i64 c, .int .i64 d, .int .i64 e]) :
    w.cell? ⟨g, 0, none⟩ = some (.int .i64 a) ∧ w.cell? ⟨g, 1, none⟩ = some (.int .i64 b) ∧ w.cell? ⟨g, 2, none⟩ = some (.int .i64 c) ∧ w.cell? ⟨g, 3, none⟩ = some (.int .i64 d) ∧ w.cell? ⟨g, 4, none⟩ = some (.int .i64 e) :=
  ⟨K.cell 0, K.cell 1, K.cell 2, K.cell 3, K.cell 4⟩
set_option maxRecDepth 100000 in
set_option maxHeartbeats 4000000 in
theorem jobAdded_walk (A : Option Addr) (n cap : Nat) (l : List Jb) (x0 x1 x2 x3 x4 : Int) (w : World) (hS : Sl w 5 A n (JB l)) (hl : l.length = n) (hn : n ≤ maxLen) (hA : A = none → n = 0 ∧ cap = 0) :
    Calls Try.prog 49 #[.slice A n cap, .agg #[.int .i64 x0, .int .i64 x1, .int .i64 x2, .int .i64 x3, .int .i64 x4]] w (RetJobs w (addR l ⟨x0, x1, x2, x3, x4⟩)) := by
  by_cases hpa : jobsB l = true
  · have h8 : n ≤ 8 := by have := (jobsB_all hpa).1; omega
    have HL := Lib.hid hl
    have HS := Lib.hid hS
    have HPA := Lib.hid hpa
    obtain ⟨⟨⟨y0, y1, y2, y3, y4⟩, u⟩, hva⟩ : ∃ v, jobAtV l x0 = v := ⟨_, rfl⟩
    have HVA := Lib.hid hva
    have hu : (jobAtV l x0).2 = u := by rw [hva]
    have HU := Lib.hid hu
    clear hpa hl hS hva hu
    go_enter Try.func49, Try.ntmps49
    go_wp2_with fail
    refine calls_named ?_
    rintro w0 hw0
    have K0 : Blk w0 w.heap.size 68 #[.int .i64 x0, .int .i64 x1, .int .i64 x2, .int .i64 x3, .int .i64 x4] := by rw [hw0]; exact Blk.new _ _ _
    have b0 : Below w.heap.size w w0 := by rw [hw0]; (repeat' (first | (with_reducible exact Below.refl _ _) | (with_reducible assumption) | (with_reducible refine Below.alloc ?_ ?_ _) | (with_reducible refine Below.drew ?_) | (with_reducible refine Below.setCell ?_ ?_ _) | (with_reducible refine bstep (by assumption) ?_ ?_) | (with_reducible exact Nat.le_refl _) | omega | (simp [*]; done) | (simp [*]; omega)))
    clear hw0
    have c1 := jobsOk_any A n cap l w0 (HS.out.below b0) HL.out hn
    rw [HPA.out] at c1
    refine c1.mono ?_
    rintro e w1 ⟨rfl, b1⟩
    have K1 := K0.below b1
    have f1 := bthen b0 b1
    clear K0 b0 b1 c1
    go_wp2_with fail
    refine (copyJobs_any A n cap l w1 (HS.out.below f1) HL.out (by omega) hA).mono ?_
    rintro e w2 ⟨A2, cap2, rfl, R2, b2⟩
    have K2 := K1.below b2
    have R2 := R2.mono f1.size
    have f2 := bthen f1 b2
    clear K1 f1 b2
    have c3 := jobAtV_any A n cap l x0 w2 (HS.out.below f2) HL.out hn
    rw [HVA.out] at c3
    have q0 := (boxed5 K2).1
    have lt2 := K2.lt
    go_wp2_with fail
    refine c3.mono ?_
    rintro e w3 ⟨rfl, b3⟩
    have K3 := K2.below b3
    have R3 := R2.below b3
    have f3 := bthen f2 b3
    clear q0 lt2 c3 K2 R2 f2 b3
    have lt3 := K3.lt
    obtain ⟨q0, q1, q2, q3, q4⟩ := boxed5 K3
    have HK3 := Lib.hid K3
    have HR3 := Lib.hid R3
    have hs3 := f3.size
    clear K3 R3
    cases u
    · by_cases hok : jobB x0 x1 x2 x3 x4 = true
      · go_wp2_with fail
        refine (jobOk_any _ _ _ _ _ _).mono ?_
        rintro e w4 ⟨rfl, b4⟩
        have K4 := (HK3.out.alloc _).below b4
        have R4 : Row w4 w.heap.size 68 5 A2 n cap2 (JB l) := Row.below (World.ownsRow.alloc HR3.out _) b4
        have f4 := bstep b4 (f3.alloc hs3 _) (by simp; omega)
        clear q0 q1 q2 q3 q4 lt3 b4 f3 HK3 HR3 hs3
        rw [hok]
        have lt4 := K4.lt
        obtain ⟨q0, q1, q2, q3, q4⟩ := boxed5 K4
        have HK4 := Lib.hid K4
        have HR4 := Lib.hid R4
        have hs4 := f4.size
        clear K4 R4
        go_wp2_with fail
        refine (open_any _ _ _ _ _ _).mono ?_
        rintro e w5 ⟨rfl, b5⟩
        have K5 := HK4.out.below b5
        have R5 := HR4.out.below b5
        have f5 := bthen f4 b5
        clear q0 q1 q2 q3 q4 lt4 b5 f4 HK4 HR4 hs4
        by_cases hf : x4 = 0
        · have hd := decide_eq_true hf
          rw [hd]
          have HF0 := Lib.hid hf
          clear hd hf
          by_cases hn8 : n = 8
          · have HF := Lib.hid (addR_no (x := ⟨x0, x1, x2, x3, x4⟩) HPA.out (by unfold addOk; rw [decide_eq_false (show ¬ l.length < 8 by have := HL.out; omega)]; simp))
            have hn8' : ((n : Int) == 8) = true := by simp; omega
            have hnn : (n : Int) = 8 := by omega
            clear hnn
            go_wp2
            refine bodyPost_ret (v := .tuple #[.slice A2 n cap2, .bool false]) (by simp [results, Try.results49, go_sem, *]) rfl ?_
            exact retJobs HF.out HL.out.symm R5 f5
          · have hyes : addOk l ⟨x0, x1, x2, x3, x4⟩ = true := by
              have hlt8 : l.length < 8 := by have := HL.out; omega
              have h2 := HU.out
              have h3 := HF0.out
              unfold addOk jobOkB
              simp only
              rw [hok, h2, decide_eq_true h3, decide_eq_true hlt8]
              rfl
            have HF := Lib.hid (addR_yes HPA.out hyes)
            have hn8' : ((n : Int) == 8) = false := by simp; omega
            have hn8i : ¬ (n : Int) = 8 := by omega
            have hltA := R5.lt
            have HR5 := Lib.hid R5
            have HK5 := Lib.hid K5
            have HLA := Lib.hid hltA
            clear R5 K5 hltA hyes
            go_wp2
            go_loopw [9] (fun i wr => ∃ k : Nat, k ≤ n ∧ i = .int .i64 (k : Nat) ∧ Below w5.heap.size w5 wr ∧ Hid (∀ j, j < k → (l.getD j default).i < x0)) (fun i _ => n - (intOf i).toNat)
            case atStart => exact ⟨0, Nat.zero_le _, rfl, Below.refl _ _, fun j hj => absurd hj (by omega)⟩
            case round =>
              obtain ⟨k, hk, rfl, hbl, hall⟩ := hrel
              have Kr := HK5.out.below hbl
              have Rr := HR5.out.below hbl
              have fr := bthen f5 hbl
              have hsr := fr.size
              have ltr := Kr.lt
              obtain ⟨q0, q1, q2, q3, q4⟩ := boxed5 Kr
              have HRr := Lib.hid Rr
              clear Kr Rr
              by_cases hlt : k < n
              · obtain ⟨g, cs, rfl, hlg, K, hcs, hj, hcell⟩ := HRr.out.cells5 HL.out (by omega)
                obtain ⟨h0, _, _, _, _⟩ := hcell k hlt
                have hgl := K.lt
                have hlt' : (k : Int) < (n : Int) := by omega
                have hd : decide ((k : Int) < (n : Int)) = true := decide_eq_true hlt'
                have hcp := HRr.out.cap_le
                have hcm : cap2 ≤ 9223372036854775807 := by have := hcp.2; unfold maxLen at this; omega
                have hcn := hcp.1
                generalize hy : (l.getD k default).i = z at h0
                have HY := Lib.hid hy
                clear hcell hj hcs K hcp hy
                by_cases hz : z < x0
                · have hzd : decide (z < x0) = true := decide_eq_true hz
                  go_wp2
                  go_quiet (fail)
                  go_wp2
                  exact ⟨⟨k + 1, by omega, by go_num, below_drewN hbl _, Lib.hid (fun j hjk => by
                    rcases Nat.lt_or_ge j k with h | h
                    · exact hall.out j h
                    · obtain rfl : j = k := by omega
                      rw [HY.out]; exact hz)⟩, by simp [intOf]; omega⟩
                · have hzd : decide (z < x0) = false := decide_eq_false hz
                  have HE := Lib.hid (addL_ins k l ⟨x0, x1, x2, x3, x4⟩ (by have := HL.out; omega) hall.out (fun _ => by rw [HY.out]; exact hz))
                  go_wp2
                  go_quiet (fail)
                  go_wp2_with fail
                  refine calls_named ?_
                  rintro wq hwq
                  have Rq : Row wq w.heap.size 68 5 (some ⟨g, 0, none⟩) n cap2 (JB l) := by rw [hwq]; exact World.ownsRow.alloc HRr.out _
                  have V : Blk wq wr.heap.size 68 (ints [x0, x1, x2, x3, x4]).toArray := by rw [hwq]; exact Blk.new _ _ _
                  have fq : Below w.heap.size w wq := by rw [hwq]; exact (below_drewN fr _).alloc hsr _
                  clear hwq
                  refine (insertJob_any w.heap.size (some ⟨g, 0, none⟩) n cap2 k wr.heap.size (JB l) [x0, x1, x2, x3, x4] wq Rq fq.size (by omega) hk rfl V (fun a ha => by obtain rfl := Option.some.inj ha; exact Nat.ne_of_lt hgl)).mono ?_
                  rintro e w7 ⟨A7, c7, rfl, R7, b7⟩
                  go_wp2
                  refine bodyPost_ret (v := .tuple #[.slice A7 (n + 1) c7, .bool true]) (by simp [results, Try.results49, go_sem, *]) rfl ?_
                  rw [← JB_ins l k ⟨x0, x1, x2, x3, x4⟩] at R7
                  refine retJobs (HF.out.trans (by rw [HE.out])) ?_ R7 (fq.trans b7)
                  have := HL.out
                  simp; omega
              · obtain rfl : k = n := by omega
                have hd : decide ((k : Int) < (k : Int)) = false := decide_eq_false (by omega)
                have HE := Lib.hid (addL_ins k l ⟨x0, x1, x2, x3, x4⟩ (by have := HL.out; omega) hall.out (fun h => absurd h (by have := HL.out; omega)))
                go_wp2
                go_quiet (fail)
                go_wp2_with fail
                refine calls_named ?_
                rintro wq hwq
                have Rq : Row wq w.heap.size 68 5 A2 k cap2 (JB l) := by rw [hwq]; exact World.ownsRow.alloc HRr.out _
                have V : Blk wq wr.heap.size 68 (ints [x0, x1, x2, x3, x4]).toArray := by rw [hwq]; exact Blk.new _ _ _
                have fq : Below w.heap.size w wq := by rw [hwq]; exact (below_drewN fr _).alloc hsr _
                have hll := HRr.out.lt
                clear hwq
                refine (insertJob_any w.heap.size A2 k cap2 k wr.heap.size (JB l) [x0, x1, x2, x3, x4] wq Rq fq.size (by omega) hk rfl V (fun a ha => Nat.ne_of_lt (hll a ha))).mono ?_
                rintro e w7 ⟨A7, c7, rfl, R7, b7⟩
                go_wp2
                refine bodyPost_ret (v := .tuple #[.slice A7 (k + 1) c7, .bool true]) (by simp [results, Try.results49, go_sem, *]) rfl ?_
                rw [← JB_ins l k ⟨x0, x1, x2, x3, x4⟩] at R7
                refine retJobs (HF.out.trans (by rw [HE.out])) ?_ R7 (fq.trans b7)
                have := HL.out
                simp; omega
        · have hd := decide_eq_false hf
          rw [hd]
          have HF := Lib.hid (addR_no (x := ⟨x0, x1, x2, x3, x4⟩) HPA.out (by unfold addOk; simp only; rw [decide_eq_false hf]; simp))
          clear hd hf
          go_wp2
          refine bodyPost_ret (v := .tuple #[.slice A2 n cap2, .bool false]) (by simp [results, Try.results49, go_sem, *]) rfl ?_
          exact retJobs HF.out HL.out.symm R5 f5
      · have hok' : jobB x0 x1 x2 x3 x4 = false := by simpa using hok
        have HF := Lib.hid (addR_no (x := ⟨x0, x1, x2, x3, x4⟩) HPA.out (by unfold addOk jobOkB; simp only; rw [hok']; simp))
        clear hok
        go_wp2_with fail
        refine (jobOk_any _ _ _ _ _ _).mono ?_
        rintro e w4 ⟨rfl, b4⟩
        have R4 : Row w4 w.heap.size 68 5 A2 n cap2 (JB l) := Row.below (World.ownsRow.alloc HR3.out _) b4
        have f4 := bstep b4 (f3.alloc hs3 _) (by simp; omega)
        rw [hok']
        clear q0 q1 q2 q3 q4 lt3 b4 f3 HK3 HR3 hs3
        go_wp2
        refine bodyPost_ret (v := .tuple #[.slice A2 n cap2, .bool false]) (by simp [results, Try.results49, go_sem, *]) rfl ?_
        exact retJobs HF.out HL.out.symm R4 f4
    · have HF := Lib.hid (addR_no (x := ⟨x0, x1, x2, x3, x4⟩) HPA.out (by have h2 := HU.out; unfold addOk; simp only; rw [h2]; simp))
      go_wp2
      refine bodyPost_ret (v := .tuple #[.slice A2 n cap2, .bool false]) (by simp [results, Try.results49, go_sem, *]) rfl ?_
      exact retJobs HF.out HL.out.symm (World.ownsRow.alloc HR3.out _) (f3.alloc hs3 _)
  · have hpa' : jobsB l = false := by simpa using hpa
    have HF := Lib.hid (show addR l ⟨x0, x1, x2, x3, x4⟩ = ([], false) by unfold addR; rw [if_neg hpa])
    go_enter Try.func49, Try.ntmps49
    go_wp2_with fail
    refine calls_named ?_
    rintro w0 hw0
    have b0 : Below w.heap.size w w0 := by rw [hw0]; (repeat' (first | (with_reducible exact Below.refl _ _) | (with_reducible assumption) | (with_reducible refine Below.alloc ?_ ?_ _) | (with_reducible refine Below.drew ?_) | (with_reducible refine Below.setCell ?_ ?_ _) | (with_reducible refine bstep (by assumption) ?_ ?_) | (with_reducible exact Nat.le_refl _) | omega | (simp [*]; done) | (simp [*]; omega)))
    clear hw0
    have c1 := jobsOk_any A n cap l w0 (hS.below b0) hl hn
    rw [hpa'] at c1
    refine c1.mono ?_
    rintro e w1 ⟨rfl, b1⟩
    go_wp2
    refine bodyPost_ret (v := .tuple #[.slice none 0 0, .bool false]) (by simp [results, Try.results49, go_sem, *]) rfl ?_
    exact retJobs HF.out rfl (Row.nil _ _ _ _) (bthen b0 b1)
end Go.Proofs.Ytgpllffiahccjaa
