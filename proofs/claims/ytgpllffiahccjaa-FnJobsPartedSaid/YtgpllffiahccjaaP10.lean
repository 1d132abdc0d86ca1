/- CutOut: the program's. -/
import Derived.Test.YtgpllffiahccjaaP8
import Derived.Test.YtgpllffiahccjaaDel
namespace Go.Proofs.Ytgpllffiahccjaa
set_option linter.unusedSimpArgs false
set_option linter.unusedVariables false
attribute [local go_sem] n_lt2 n_lt3 n_lt4 n_le2 n_le3
open Go.RowKit

theorem Row.nil_of {w : World} {lo : Nat} {e : TypeId} {s : Nat} {A : Option Addr} {n cap : Nat} {zs : List Int} (h : Row w lo e s A n cap zs) : A = none → n = 0 ∧ cap = 0 := fun hA => by
  rcases h.2 with ⟨hv, h0⟩ | ⟨g, c, cur, hv, _⟩
  · injection hv with _ _ hc
    exact ⟨h0, hc⟩
  · injection hv with h1
    rw [hA] at h1
    cases h1
theorem PR_erase (l : List Pr) (k : Nat) : PR (l.eraseIdx k) = (PR l).take (k * 2) ++ (PR l).drop (k * 2 + 2) := by
  induction l generalizing k with
  | nil => simp [PR]
  | cons p l ih =>
    cases k with
    | zero => simp [PR]
    | succ k =>
      have := ih k
      rw [List.eraseIdx_cons_succ]
      have e1 : (k + 1) * 2 = k * 2 + 1 + 1 := by omega
      have e2 : (k + 1) * 2 + 2 = (k * 2 + 2) + 1 + 1 := by omega
      rw [e2, e1]
      simp only [PR, List.flatMap_cons, List.cons_append, List.nil_append, List.take_succ_cons, List.drop_succ_cons] at this ⊢
      rw [this]
theorem cutL_hit {l : List Pr} {key : Int} (h : pairsB l = true) (hk : keyIx l key < l.length) : (cutL l key).length = l.length - 1 := by
  rw [cutL_erase key h, List.length_eraseIdx, if_pos hk]
theorem cutL_miss {l : List Pr} {key : Int} (hk : ¬ keyIx l key < l.length) : cutL l key = l := by
  refine cutL_all (fun p hp hpk => hk ?_)
  unfold keyIx
  exact List.findIdx_lt_length_of_exists ⟨p, hp, by simpa using hpk⟩
attribute [local go_sem] Ext.cell Ext.frozen

set_option maxRecDepth 100000 in
set_option maxHeartbeats 2000000 in
theorem cutOut_any (A : Option Addr) (n cap : Nat) (l : List Pr) (key : Int) (w : World) (hS : Sl w 2 A n (PR l)) (hl : l.length = n) (hn : n ≤ maxLen) (hA : A = none → n = 0 ∧ cap = 0) :
    Calls Try.prog 43 #[.slice A n cap, .int .i64 key] w (if pairsB l = true then RetRowB w 101 2 (cutL l key).length (PR (cutL l key)) (decide ((cutL l key).length < n)) else RetRowB w 101 2 0 [] false) := by
  have c1 := pairsOk_any A n cap l w hS hl hn
  by_cases hpa : pairsB l = true
  · have h10 : n ≤ 10 := by have := pairsB_len hpa; omega
    rw [if_pos hpa]
    rw [hpa] at c1
    by_cases hk : keyIx l key < l.length
    · have ha : keyAt l key = (keyIx l key : Int) := by unfold keyAt; rw [if_pos hk]
      have hc1 := cutL_hit hpa hk
      have hc2 := cutL_erase key hpa
      have HC := Lib.hid (And.intro hc1 hc2)
      obtain ⟨k, hkk⟩ : ∃ k, k = keyIx l key := ⟨_, rfl⟩
      have HK := Lib.hid hkk
      rw [← hkk] at ha hk
      have Ha := Lib.hid ha
      have HL := Lib.hid hl
      have HS := Lib.hid hS
      have hkn : k < n := by omega
      clear hc1 hc2 hkk ha hpa hl hS hk
      go_enter Try.func43, Try.ntmps43
      go_wp2_with fail
      refine c1.mono ?_
      rintro e w1 ⟨rfl, b1⟩
      have c2 := copyPairs_any A n cap l w1 (HS.out.below b1) HL.out (by omega) hA
      go_wp2_with fail
      refine c2.mono ?_
      rintro e w2 ⟨A2, cap2, rfl, R2, b2⟩
      have c3 := placePair_any A2 n cap2 l key w2 R2.sl HL.out (by unfold maxLen; omega)
      rw [Ha.out] at c3
      go_wp2_with fail
      refine c3.mono ?_
      rintro e w3 ⟨rfl, b3⟩
      have R3 := R2.below b3
      have hkn' : (k : Int) < (n : Int) := by omega
      go_wp2_with fail
      refine (deletePair_any w1.heap.size A2 n cap2 k (PR l) w3 R3 hkn).mono ?_
      rintro e w4 ⟨rfl, R4, b4⟩
      go_wp2
      refine bodyPost_ret (v := .tuple #[.slice A2 (n - 1) cap2, .bool true]) (by simp [results, Try.results43, go_sem, *]) rfl ?_
      rw [HC.out.2, ← HK.out, PR_erase]
      have e1 : (l.eraseIdx k).length = n - 1 := by rw [HK.out, ← HC.out.2, HC.out.1, HL.out]
      rw [e1, decide_eq_true (by omega)]
      refine ⟨A2, cap2, rfl, R4.mono b1.size, ?_⟩
      exact (bthen b1 (bthen b2 b3)).trans (b4.mono b1.size)
    · have ha : keyAt l key = -1 := by unfold keyAt; rw [if_neg hk]
      have HC := Lib.hid (cutL_miss hk)
      have Ha := Lib.hid ha
      have HL := Lib.hid hl
      have HS := Lib.hid hS
      clear ha hpa hl hS hk
      go_enter Try.func43, Try.ntmps43
      go_wp2_with fail
      refine c1.mono ?_
      rintro e w1 ⟨rfl, b1⟩
      have c2 := copyPairs_any A n cap l w1 (HS.out.below b1) HL.out (by omega) hA
      go_wp2_with fail
      refine c2.mono ?_
      rintro e w2 ⟨A2, cap2, rfl, R2, b2⟩
      have c3 := placePair_any A2 n cap2 l key w2 R2.sl HL.out (by unfold maxLen; omega)
      rw [Ha.out] at c3
      go_wp2_with fail
      refine c3.mono ?_
      rintro e w3 ⟨rfl, b3⟩
      have R3 := R2.below b3
      go_wp2
      refine bodyPost_ret (v := .tuple #[.slice A2 n cap2, .bool false]) (by simp [results, Try.results43, go_sem, *]) rfl ?_
      rw [HC.out, HL.out, decide_eq_false (by omega)]
      exact ⟨A2, cap2, rfl, R3.mono b1.size, bthen b1 (bthen b2 b3)⟩
  · have hpa' : pairsB l = false := by simpa using hpa
    rw [if_neg hpa]
    rw [hpa'] at c1
    go_enter Try.func43, Try.ntmps43
    go_wp2_with fail
    refine c1.mono ?_
    rintro e w1 ⟨rfl, b1⟩
    go_wp2
    refine bodyPost_ret (v := .tuple #[.slice none 0 0, .bool false]) (by simp [results, Try.results43, go_sem, *]) rfl ⟨_, _, rfl, Row.nil _ _ _ _, b1⟩

/-- Both results in one: what is left, and whether a pair was cut out. -/
def cutR (l : List Pr) (key : Int) : List Pr × Bool := if pairsB l = true then (cutL l key, decide ((cutL l key).length < l.length)) else ([], false)
theorem cutR_len (l : List Pr) (key : Int) : (cutR l key).1.length ≤ 10 := by
  unfold cutR
  split
  · rename_i h
    exact Nat.le_trans (cutL_le l key) (pairsB_len h)
  · simp
theorem cutOutR_any (A : Option Addr) (n cap : Nat) (l : List Pr) (key : Int) (w : World) (hS : Sl w 2 A n (PR l)) (hl : l.length = n) (hn : n ≤ maxLen) (hA : A = none → n = 0 ∧ cap = 0) :
    Calls Try.prog 43 #[.slice A n cap, .int .i64 key] w (RetRowB w 101 2 (cutR l key).1.length (PR (cutR l key).1) (cutR l key).2) := by
  have c := cutOut_any A n cap l key w hS hl hn hA
  unfold cutR
  subst hl
  split at c
  · rename_i h
    rw [if_pos h]
    exact c
  · rename_i h
    rw [if_neg h]
    exact c
end Go.Proofs.Ytgpllffiahccjaa
