/- RowOrders: the program's; both as one function of the row. -/
import Derived.Test.YtgpllffiahccjaaRJS
import Derived.Test.YtgpllffiahccjaaTJ
namespace Go.Proofs.Ytgpllffiahccjaa
set_option linter.unusedSimpArgs false
set_option linter.unusedVariables false
attribute [local go_sem] n_lt2 n_lt3 n_lt4 n_le2 n_le3
open Go.RowKit
attribute [local go_sem] Ext.cell Ext.frozen

open Classical in
/-- The list that a row holds. -/
noncomputable def rowOrdersR (zs : List Int) : List Jb × Bool := if h : ∃ l : List Jb, zs = (l.length : Int) :: JB l ∧ jobsB l = true then (Classical.choose h, true) else ([], false)
theorem rowOrdersR_yes {zs : List Int} {l : List Jb} (h : zs = (l.length : Int) :: JB l) (hb : jobsB l = true) : rowOrdersR zs = (l, true) := by
  have hex : ∃ l : List Jb, zs = (l.length : Int) :: JB l ∧ jobsB l = true := ⟨l, h, hb⟩
  unfold rowOrdersR
  rw [dif_pos hex]
  have h2 := h.symm.trans (Classical.choose_spec hex).1
  injection h2 with _ h3
  exact congrArg (fun x => (x, true)) (JB_inj h3).symm
theorem rowOrdersR_no {zs : List Int} (h : ∀ l : List Jb, zs = (l.length : Int) :: JB l → jobsB l = false) : rowOrdersR zs = ([], false) := by
  unfold rowOrdersR
  rw [dif_neg]
  rintro ⟨l, h1, h2⟩
  rw [h l h1] at h2
  cases h2
theorem rowOrdersR_len (zs : List Int) : (rowOrdersR zs).1.length ≤ 10 := by
  unfold rowOrdersR
  split
  · rename_i h
    exact jobsB_len (Classical.choose_spec h).2
  · simp
set_option maxRecDepth 100000 in
set_option maxHeartbeats 2000000 in
theorem RowOrders_any (A : Option Addr) (n cap : Nat) (zs : List Int) (w : World) (hS : Sl w 1 A n zs) (hn : n ≤ 1048576) (hc : n ≤ cap) (hcm : cap ≤ maxLen) (hlt : LtB A w.heap.size) :
    Calls Try.prog 35 #[.slice A n cap] w (RetRowB w 68 5 (rowOrdersR zs).1.length (JB (rowOrdersR zs).1) (rowOrdersR zs).2) := by
  have hlen := hS.len
  by_cases hyes : 0 < n ∧ 0 ≤ zs.getD 0 0 ∧ zs.getD 0 0 ≤ 8 ∧ zs.getD 0 0 * 5 + 0 + 1 ≤ n
  · obtain ⟨hn0, hx0, hx1, hx2⟩ := hyes
    obtain ⟨m, hxm⟩ : ∃ m : Nat, zs.getD 0 0 = (m : Int) := ⟨_, (Int.toNat_of_nonneg hx0).symm⟩
    have hm : m ≤ 8 := by omega
    have hfit : 0 + 1 + 5 * m ≤ n := by omega
    obtain ⟨l, hl, hseg⟩ := JB_of m ((zs.drop (0 + 1)).take (5 * m)) (by simp; omega)
    obtain ⟨b, off, rfl, hb, _⟩ := hS.at_ hn0
    have hzs : zs = (m : Int) :: zs.drop 1 := by
      match zs, hlen with
      | [], hlen => simp at hlen; omega
      | a :: r, _ =>
        have : a = (m : Int) := by simpa using hxm
        rw [this]; rfl
    -- what it comes to
    have hfin : rowOrdersR zs = if decide (0 + 1 + 5 * m = n) && jobsB l then (l, true) else ([], false) := by
      by_cases hd : 0 + 1 + 5 * m = n
      · have hdr : zs.drop 1 = JB l := by rw [hseg, List.take_of_length_le (by simp; omega)]
        by_cases hb : jobsB l = true
        · rw [if_pos (by simp [hd, hb])]
          exact rowOrdersR_yes (by rw [hl, ← hdr]; exact hzs) hb
        · rw [if_neg (by simp [hb])]
          refine rowOrdersR_no (fun l' h => ?_)
          rw [hzs] at h
          injection h with _ h2
          rw [hdr] at h2
          rw [← JB_inj h2]
          simpa using hb
      · rw [if_neg (by simp [hd])]
        refine rowOrdersR_no (fun l' h => ?_)
        exfalso
        rw [hzs] at h
        injection h with h1 h2
        have h3 := congrArg List.length h2
        rw [JB_len, List.length_drop] at h3
        omega
    generalize rowOrdersR zs = res at hfin ⊢
    generalize hdb : decide (0 + 1 + 5 * m = n) = db at hfin
    generalize hob : jobsB l = ob at hfin
    have HF := Lib.hid hfin
    have HDB := Lib.hid hdb
    have HOB := Lib.hid hob
    have HL := Lib.hid hl
    have HG := Lib.hid hseg
    have HX := Lib.hid hxm
    have HS := Lib.hid hS
    clear hfin hzs hl hseg hxm hS hx0 hx1 hx2 hlen hdb hob
    go_enter Try.func35, Try.ntmps35
    go_wp2_with fail
    refine calls_named ?_
    rintro w1 hw1
    have K1 : RCur w1 w.heap.size 104 (some ⟨b, off, none⟩) n cap 0 := by rw [hw1]; exact Blk.new _ _ _
    have b1 : Below w.heap.size w w1 := by rw [hw1]; (repeat' (first | (with_reducible exact Below.refl _ _) | (with_reducible assumption) | (with_reducible refine Below.alloc ?_ ?_ _) | (with_reducible refine Below.drew ?_) | (with_reducible refine Below.setCell ?_ ?_ _) | (with_reducible refine bstep (by assumption) ?_ ?_) | (with_reducible exact Nat.le_refl _) | omega | (simp [*]; done) | (simp [*]; omega)))
    clear hw1
    have hbp : b ≠ w.heap.size := by omega
    refine (takeJobs_yes w.heap.size n cap 0 m b off zs l w1 K1 (HS.out.below b1) hn hc hcm hbp hm HX.out hfit HL.out HG.out.symm).mono ?_
    rintro e w2 ⟨A', c', rfl, R2, K2, W2⟩
    have b2 : Below w.heap.size w w2 := W2.below b1 b1.size (fun y hy => by obtain rfl := Option.some.inj hy; exact Nat.le_refl _)
    have R2 := R2.mono b1.size
    have c2 := done_any w.heap.size n cap (0 + 1 + 5 * m) _ w2 K2 (by unfold maxLen; omega) hfit
    rw [HDB.out] at c2
    clear W2 K1 K2
    cases db
    · go_wp2_with fail
      refine c2.mono ?_
      rintro e w3 ⟨rfl, _, b3⟩
      go_wp2
      refine bodyPost_ret (v := .tuple #[.slice none 0 0, .bool false]) (by simp [results, Try.results35, go_sem, *]) rfl ?_
      have e := HF.out
      simp at e
      subst e
      exact ⟨_, _, rfl, Row.nil _ _ _ _, bstep b3 b2 b2.size⟩
    · go_wp2_with fail
      refine c2.mono ?_
      rintro e w3 ⟨rfl, _, b3⟩
      have R3 := R2.below b3
      have c3 := jobsOk_any A' m c' l w3 R3.sl HL.out (by unfold maxLen; omega)
      rw [HOB.out] at c3
      cases ob
      · go_wp2_with fail
        refine c3.mono ?_
        rintro e w4 ⟨rfl, b4⟩
        go_wp2
        refine bodyPost_ret (v := .tuple #[.slice none 0 0, .bool false]) (by simp [results, Try.results35, go_sem, *]) rfl ?_
        have e := HF.out
        simp at e
        subst e
        exact ⟨_, _, rfl, Row.nil _ _ _ _, bstep (bthen b3 b4) b2 b2.size⟩
      · go_wp2_with fail
        refine c3.mono ?_
        rintro e w4 ⟨rfl, b4⟩
        go_wp2
        refine bodyPost_ret (v := .tuple #[.slice A' m c', .bool true]) (by simp [results, Try.results35, go_sem, *]) rfl ?_
        have e := HF.out
        simp at e
        subst e
        refine ⟨A', c', ?_, ?_, bstep (bthen b3 b4) b2 b2.size⟩
        · show _ = Ending.returned (.tuple #[.slice A' l.length c', .bool true])
          rw [HL.out]
        · show Row w4 _ _ _ A' l.length c' (JB l)
          rw [HL.out]
          exact R3.below b4
  · have hfin : rowOrdersR zs = ([], false) := rowOrdersR_no (fun l h => by
      rw [← Bool.not_eq_true]
      intro hb
      refine hyes ?_
      have h1 := jobsB_len hb
      have h4 := (jobsB_all hb).1
      rw [h] at hlen ⊢
      rw [List.length_cons, JB_len] at hlen
      simp only [List.getD_cons_zero]
      omega)
    rw [hfin]
    have HS := Lib.hid hS
    have hno : 0 < n → ¬ (0 ≤ zs.getD 0 0 ∧ zs.getD 0 0 ≤ 8 ∧ zs.getD 0 0 * 5 + (0 : Nat) + 1 ≤ n) := fun h h2 => hyes ⟨h, by simpa using h2⟩
    have HN := Lib.hid hno
    clear hfin hyes hno hS hlen
    go_enter Try.func35, Try.ntmps35
    go_wp2_with fail
    refine calls_named ?_
    rintro w1 hw1
    have K1 : RCur w1 w.heap.size 104 A n cap 0 := by rw [hw1]; exact Blk.new _ _ _
    have b1 : Below w.heap.size w w1 := by rw [hw1]; (repeat' (first | (with_reducible exact Below.refl _ _) | (with_reducible assumption) | (with_reducible refine Below.alloc ?_ ?_ _) | (with_reducible refine Below.drew ?_) | (with_reducible refine Below.setCell ?_ ?_ _) | (with_reducible refine bstep (by assumption) ?_ ?_) | (with_reducible exact Nat.le_refl _) | omega | (simp [*]; done) | (simp [*]; omega)))
    clear hw1
    refine (takeJobs_no w.heap.size n cap 0 A zs w1 K1 (HS.out.below b1) hn hc hcm (Nat.zero_le _) (fun a ha => by have := hlt a ha; omega) HN.out).mono ?_
    rintro e w2 ⟨A', n', c', at', rfl, _, K2, W2⟩
    have b2 : Below w.heap.size w w2 := W2.below b1 b1.size (fun y hy => by obtain rfl := Option.some.inj hy; exact Nat.le_refl _)
    go_wp2
    refine bodyPost_ret (v := .tuple #[.slice none 0 0, .bool false]) (by simp [results, Try.results35, go_sem, *]) rfl ⟨_, _, rfl, Row.nil _ _ _ _, b2⟩
end Go.Proofs.Ytgpllffiahccjaa
