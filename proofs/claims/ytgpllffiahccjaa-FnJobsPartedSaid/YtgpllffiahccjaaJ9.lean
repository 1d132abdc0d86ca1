/- JobFired: the reference's. -/
import Derived.Test.YtgpllffiahccjaaJ8
namespace Go.Proofs.Ytgpllffiahccjaa
set_option linter.unusedSimpArgs false
set_option linter.unusedVariables false
attribute [local go_sem] n_lt2 n_lt3 n_lt4 n_le2 n_le3
open Go.RowKit
attribute [local go_sem] Ext.cell Ext.frozen

/-- The reference's two running values. -/
def idxTo (l : List Jb) (x : Int) (k : Nat) : Int := if firedBefore l k x = true then 0 else x
def atTo (l : List Jb) (id : Int) (k : Nat) : Int := if jobIx l id < k ∧ jobIx l id < l.length ∧ (l.getD (jobIx l id) default).f = 0 then (jobIx l id : Int) else -1
theorem idxTo_hit {l : List Jb} {x : Int} {k : Nat} (h : (l.getD k default).f = idxTo l x k) : idxTo l x (k + 1) = 0 := by
  unfold idxTo at h ⊢
  rw [firedBefore_succ]
  by_cases hb : firedBefore l k x = true
  · rw [hb]; rfl
  · have hb' : firedBefore l k x = false := by simpa using hb
    rw [if_neg hb] at h
    rw [hb', decide_eq_true h]
    rfl
theorem idxTo_miss {l : List Jb} {x : Int} {k : Nat} (h : ¬ (l.getD k default).f = idxTo l x k) : idxTo l x (k + 1) = idxTo l x k := by
  unfold idxTo at h ⊢
  rw [firedBefore_succ]
  by_cases hb : firedBefore l k x = true
  · rw [hb]; rfl
  · have hb' : firedBefore l k x = false := by simpa using hb
    rw [if_neg hb] at h
    rw [hb', decide_eq_false h]
    rfl
theorem atTo_hit {l : List Jb} {id : Int} {k : Nat} (hb : jobsB l = true) (hk : k < l.length) (h1 : (l.getD k default).i = id) (h2 : (l.getD k default).f = 0) : atTo l id (k + 1) = k := by
  unfold atTo
  rw [jobIx_at hb hk h1, if_pos ⟨by omega, hk, h2⟩]
theorem atTo_miss {l : List Jb} {id : Int} {k : Nat} (hk : k < l.length) (h : ¬ ((l.getD k default).i = id ∧ (l.getD k default).f = 0)) : atTo l id (k + 1) = atTo l id k := by
  unfold atTo
  by_cases hx : jobIx l id = k
  · rw [hx, if_neg (fun h' => h ⟨by rw [← hx]; exact jobIx_hit (by omega), h'.2.2⟩), if_neg (fun h' => by omega)]
  · by_cases h1 : jobIx l id < k ∧ jobIx l id < l.length ∧ (l.getD (jobIx l id) default).f = 0
    · rw [if_pos h1, if_pos ⟨by omega, h1.2⟩]
    · rw [if_neg h1, if_neg (fun h' => h1 ⟨by omega, h'.2⟩)]
set_option maxRecDepth 100000 in
set_option maxHeartbeats 4000000 in
theorem specJobFired_walk (A : Option Addr) (n cap : Nat) (l : List Jb) (id x : Int) (w : World) (hS : Sl w 5 A n (JB l)) (hl : l.length = n) (hn : n ≤ maxLen) (hA : A = none → n = 0 ∧ cap = 0) :
    Calls Try.prog 46 #[.slice A n cap, .int .i64 id, .int .i64 x] w (RetJobs w (firedR l id x)) := by
  have c1 := specJobsOk_any A n cap l w hS hl hn
  by_cases hpa : jobsB l = true
  · have h8 : n ≤ 8 := by have := (jobsB_all hpa).1; omega
    rw [hpa] at c1
    have HL := Lib.hid hl
    have HS := Lib.hid hS
    have HPA := Lib.hid hpa
    clear hpa hl hS
    go_enter Try.func46, Try.ntmps46
    go_wp2_with fail
    refine c1.mono ?_
    rintro e w1 ⟨rfl, b1⟩
    go_wp2_with fail
    refine (l15Copy_any A n cap l w1 (HS.out.below b1) HL.out (by omega) hA).mono ?_
    rintro e w2 ⟨A2, cap2, rfl, R2, b2⟩
    have f2 := bthen b1 b2
    have R2 := R2.mono b1.size
    have S2 := Lib.hid (HS.out.below f2)
    clear b1 b2 c1
    go_wp2
    go_loop [2, 9, 10] (fun xi ai i => ∃ k : Nat, k ≤ n ∧ i = .int .i64 (k : Nat) ∧ xi = .int .i64 (idxTo l x k) ∧ ai = .int .i64 (atTo l id k)) (fun _ _ i => n - (intOf i).toNat)
    case atStart => exact ⟨0, Nat.zero_le _, rfl, by simp [idxTo, firedBefore], by simp [atTo]⟩
    case round =>
      obtain ⟨k, hk, rfl, rfl, rfl⟩ := hrel
      by_cases hlt : k < n
      · obtain ⟨b, off, rfl, hb, hcell⟩ := sl_jobs S2.out (by omega)
        obtain ⟨h0, _, _, _, h4⟩ := hcell k hlt
        clear hcell
        have hlt' : (k : Int) < (n : Int) := by omega
        have hkl : k < l.length := by have := HL.out; omega
        have e1 := Lib.hid (@idxTo_hit l x k)
        have e2 := Lib.hid (@idxTo_miss l x k)
        have e3 := Lib.hid (@atTo_hit l id k HPA.out hkl)
        have e4 := Lib.hid (@atTo_miss l id k hkl)
        generalize hp : l.getD k default = p at h0 h4
        obtain ⟨y0, y1, y2, y3, y4⟩ := p
        simp only at h0 h4
        generalize hc : idxTo l x k = c
        generalize ha : atTo l id k = a
        have HP := Lib.hid (And.intro hp (And.intro hc ha))
        clear hp hc ha hkl
        by_cases hf : y4 = c
        · have hx := Lib.hid (e1.out (by rw [HP.out.1, HP.out.2.1]; exact hf))
          by_cases hi : y0 = id
          · by_cases hz : y4 = 0
            · have hat := Lib.hid (e3.out (by rw [HP.out.1]; exact hi) (by rw [HP.out.1]; exact hz))
              have hf' : (y4 == c) = true := by simpa using hf
              have hi' : (y0 == id) = true := by simpa using hi
              have hz' : (y4 == 0) = true := by simpa using hz
              clear hf hi hz
              go_wp2
              exact ⟨⟨k + 1, by omega, by go_num, by rw [hx.out], by rw [hat.out]⟩, by simp [intOf]; omega⟩
            · have hat := Lib.hid (e4.out (by rw [HP.out.1]; exact fun h => hz h.2))
              have hf' : (y4 == c) = true := by simpa using hf
              have hi' : (y0 == id) = true := by simpa using hi
              have hz' : (y4 == 0) = false := by simpa using hz
              clear hf hi hz
              go_wp2
              exact ⟨⟨k + 1, by omega, by go_num, by rw [hx.out], by rw [hat.out, HP.out.2.2]⟩, by simp [intOf]; omega⟩
          · have hat := Lib.hid (e4.out (by rw [HP.out.1]; exact fun h => hi h.1))
            have hf' : (y4 == c) = true := by simpa using hf
            have hi' : (y0 == id) = false := by simpa using hi
            clear hf hi
            go_wp2
            exact ⟨⟨k + 1, by omega, by go_num, by rw [hx.out], by rw [hat.out, HP.out.2.2]⟩, by simp [intOf]; omega⟩
        · have hx := Lib.hid (e2.out (by rw [HP.out.1, HP.out.2.1]; exact hf))
          by_cases hi : y0 = id
          · by_cases hz : y4 = 0
            · have hat := Lib.hid (e3.out (by rw [HP.out.1]; exact hi) (by rw [HP.out.1]; exact hz))
              have hf' : (y4 == c) = false := by simpa using hf
              have hi' : (y0 == id) = true := by simpa using hi
              have hz' : (y4 == 0) = true := by simpa using hz
              clear hf hi hz
              go_wp2
              exact ⟨⟨k + 1, by omega, by go_num, by rw [hx.out, HP.out.2.1], by rw [hat.out]⟩, by simp [intOf]; omega⟩
            · have hat := Lib.hid (e4.out (by rw [HP.out.1]; exact fun h => hz h.2))
              have hf' : (y4 == c) = false := by simpa using hf
              have hi' : (y0 == id) = true := by simpa using hi
              have hz' : (y4 == 0) = false := by simpa using hz
              clear hf hi hz
              go_wp2
              exact ⟨⟨k + 1, by omega, by go_num, by rw [hx.out, HP.out.2.1], by rw [hat.out, HP.out.2.2]⟩, by simp [intOf]; omega⟩
          · have hat := Lib.hid (e4.out (by rw [HP.out.1]; exact fun h => hi h.1))
            have hf' : (y4 == c) = false := by simpa using hf
            have hi' : (y0 == id) = false := by simpa using hi
            clear hf hi
            go_wp2
            exact ⟨⟨k + 1, by omega, by go_num, by rw [hx.out, HP.out.2.1], by rw [hat.out, HP.out.2.2]⟩, by simp [intOf]; omega⟩
      · obtain rfl : k = n := by omega
        by_cases hat : jobIx l id < l.length ∧ (l.getD (jobIx l id) default).f = 0
        · obtain ⟨m, hm⟩ : ∃ m, m = jobIx l id := ⟨_, rfl⟩
          have ea : atTo l id k = (m : Int) := by unfold atTo; rw [if_pos ⟨by have := HL.out; omega, hat⟩, hm]
          have hmk : m < k := by have := HL.out; omega
          rw [ea]
          by_cases hin : inB (idxTo l x k) 1 2000 = true
          · have hfb : firedBefore l l.length x = false := by
              rw [← Bool.not_eq_true]
              intro h
              unfold idxTo at hin
              rw [← HL.out, if_pos h] at hin
              exact absurd hin (by decide)
            have ei : idxTo l x k = x := by unfold idxTo; rw [← HL.out, hfb]; rfl
            rw [ei] at hin ⊢
            have HF := Lib.hid (show firedR l id x = (firedSet l m x, true) by
              unfold firedR
              rw [if_pos HPA.out, if_pos, hm]
              unfold firedOk
              rw [hfb, hin, decide_eq_true hat.1, decide_eq_true hat.2]
              rfl)
            obtain ⟨g, cs, rfl, hlg, K, hcs, hj, _⟩ := R2.cells5 HL.out (by omega)
            have hcp := R2.cap_le
            have hcm : cap2 ≤ 9223372036854775807 := by have := hcp.2; unfold maxLen at this; omega
            have hmk' : (m : Int) < (k : Int) := by omega
            obtain ⟨c, hc5⟩ : ∃ c, w2.cell? ⟨g, m * 5 + 4, none⟩ = some c := K.has (by have := hcp.1; omega)
            have hfz := K.frozen (m * 5 + 4)
            have HK := Lib.hid (And.intro K (And.intro hcs (And.intro hj hcp)))
            clear K hcs hj hcp hat ei hfb ea hm
            go_wp2_with ((go_at_call 74; refine (l1In_any _ _ _ _).mono ?_; rintro e w' ⟨rfl, rfl⟩))
            refine bodyPost_ret (v := .tuple #[.slice (some ⟨g, 0, none⟩) k cap2, .bool true]) (by simp [results, Try.results46, go_sem, *]) rfl ?_
            exact retJobs HF.out (by simp [firedSet, HL.out]) (firedSet_row HK.out.1 hlg HK.out.2.2.2.1 HK.out.2.2.2.2 HK.out.2.1 HL.out HK.out.2.2.1 hmk) (f2.setCell hlg _)
          · have hin' : inB (idxTo l x k) 1 2000 = false := by simpa using hin
            have HF := Lib.hid (show firedR l id x = (l, false) by
              unfold firedR
              rw [if_pos HPA.out, if_neg]
              unfold firedOk
              intro h
              simp only [Bool.and_eq_true, decide_eq_true_eq, Bool.not_eq_true'] at h
              refine hin ?_
              unfold idxTo
              rw [← HL.out, h.2.2.2]
              exact h.2.2.1)
            generalize idxTo l x k = c at hin'
            clear hin hat ea hm
            go_wp2_with ((go_at_call 74; refine (l1In_any _ _ _ _).mono ?_; rintro e w' ⟨rfl, rfl⟩))
            refine bodyPost_ret (v := .tuple #[.slice A2 k cap2, .bool false]) (by simp [results, Try.results46, go_sem, *]) rfl ?_
            exact retJobs HF.out HL.out.symm R2 f2
        · have ea : atTo l id k = -1 := by unfold atTo; rw [if_neg (fun h => hat h.2)]
          rw [ea]
          have HF := Lib.hid (show firedR l id x = (l, false) by
            unfold firedR
            rw [if_pos HPA.out, if_neg]
            unfold firedOk
            intro h
            simp only [Bool.and_eq_true, decide_eq_true_eq] at h
            exact hat ⟨h.1, h.2.1⟩)
          generalize idxTo l x k = c
          clear hat ea
          go_wp2
          refine bodyPost_ret (v := .tuple #[.slice A2 k cap2, .bool false]) (by simp [results, Try.results46, go_sem, *]) rfl ?_
          exact retJobs HF.out HL.out.symm R2 f2
  · have hpa' : jobsB l = false := by simpa using hpa
    have HF := Lib.hid (show firedR l id x = ([], false) by unfold firedR; rw [if_neg hpa])
    rw [hpa'] at c1
    go_enter Try.func46, Try.ntmps46
    go_wp2_with fail
    refine c1.mono ?_
    rintro e w1 ⟨rfl, b1⟩
    go_wp2
    refine bodyPost_ret (v := .tuple #[.slice (some ⟨w1.heap.size, 0, none⟩) 0 0, .bool false]) (by simp [results, Try.results46, go_sem, *]) rfl ?_
    exact retJobs HF.out rfl (row0p (Blk.new w1 _ _) b1.size) (b1.alloc b1.size _)
theorem firedRS_any (A : Option Addr) (n cap : Nat) (l : List Jb) (id x : Int) (w : World) (hS : Sl w 5 A n (JB l)) (hl : l.length = n) (hn : n ≤ maxLen) (hA : A = none → n = 0 ∧ cap = 0) :
    Calls Try.prog 46 #[.slice A n cap, .int .i64 id, .int .i64 x] w (RetRowB w 68 5 (firedR l id x).1.length (JB (firedR l id x).1) (firedR l id x).2) := specJobFired_walk A n cap l id x w hS hl hn hA
theorem firedRI_any (A : Option Addr) (n cap : Nat) (l : List Jb) (id x : Int) (w : World) (hS : Sl w 5 A n (JB l)) (hl : l.length = n) (hn : n ≤ maxLen) (hA : A = none → n = 0 ∧ cap = 0) :
    Calls Try.prog 47 #[.slice A n cap, .int .i64 id, .int .i64 x] w (RetRowB w 68 5 (firedR l id x).1.length (JB (firedR l id x).1) (firedR l id x).2) := jobFired_walk A n cap l id x w hS hl hn hA
end Go.Proofs.Ytgpllffiahccjaa
