/- Clients: copies: copyClient of the copying function. -/
import Derived.Test.YtckbnfgdjdppfaaC6
namespace Go.Proofs.Ytckbnfgdjdppfaa
set_option linter.unusedSimpArgs false
set_option linter.unusedVariables false
attribute [local go_sem] n_lt2 n_lt3 n_lt4 n_le2 n_le3
open Go.RowKit
attribute [local go_sem] Ext.cell Ext.frozen
set_option maxRecDepth 100000 in
set_option maxHeartbeats 4000000 in
theorem copyClient_any (A : Option Addr) (n c : Nat) (B : Option Addr) (m d : Nat) (i0 t0 : Int) (zp zq : List Int) (w : World) (hP : Sl w 7 A n zp) (hQ : Sl w 4 B m zq) (hn : n ≤ 1000) (hm : m ≤ 1000) :
    Calls Try.prog 25 #[.agg #[.int .i64 i0, .slice A n c, .slice B m d, .int .i64 t0]] w fun e w' => ∃ A' c' B' d', e = .returned (.agg #[.int .i64 i0, .slice (some A') n c', .slice (some B') m d', .int .i64 t0]) ∧ Row w' w.heap.size 45 7 (some A') n c' zp ∧ Row w' w.heap.size 75 4 (some B') m d' zq ∧ A'.block ≠ B'.block ∧ Below w.heap.size w w' := by
  have HP := Lib.hid (fun (w' : World) (hB : Below w.heap.size w w') => hP.below hB)
  have HQ := Lib.hid (fun (w' : World) (hB : Below w.heap.size w w') => hQ.below hB)
  clear hP hQ
  obtain ⟨ia, hia, hza, hsa, hya⟩ := info_parts info_Want6
  obtain ⟨ib, hib, hzb, hsb, hyb⟩ := info_parts info_Got6
  go_enter Try.func25, Try.ntmps25
  go_wp2
  obtain ⟨v, hv⟩ : ∃ v : World, v = ((w.alloc (.cells #[.int .i64 i0, .slice A n c, .slice B m d, .int .i64 t0] 32)).alloc (.cells #[.int .i64 0, .slice none 0 0, .slice none 0 0, .int .i64 0] 32)) := ⟨_, rfl⟩
  rw [← hv]
  have hS0 : CopyS w w.heap.size (w.heap.size + 1) (.int .i64 i0) (.slice A n c) (.slice B m d) (.int .i64 t0) v := by
    rw [hv]
    exact CopyS.mk (e := 32) (f := 32) (by (repeat' (first | (with_reducible exact Below.refl _ _) | (with_reducible assumption) | (with_reducible refine Below.alloc ?_ ?_ _) | (with_reducible refine Below.drew ?_) | (with_reducible refine Below.setCell ?_ ?_ _) | (with_reducible refine bstep (by assumption) ?_ ?_) | (with_reducible exact Nat.le_refl _) | omega | (simp [*]; done) | (simp [*]; omega)))) ((Blk.new_at _ _ _ _ (by simp)).alloc _) (Blk.new_at _ _ _ _ (by simp))
  have HRB := Lib.hid (show Blk v (w.heap.size + 1) 32 #[.int .i64 0, .slice none 0 0, .slice none 0 0, .int .i64 0] by rw [hv]; exact Blk.new_at _ _ _ _ (by simp))
  have HV := Lib.hid (show v.heap.size = w.heap.size + 2 by rw [hv]; simp)
  clear hv
  have Hb0 := Lib.hid hS0.b
  go_region_held_law (fun w' => Below w.heap.size w w' ∧ w'.cell? ⟨w.heap.size, 0, none⟩ = some (.int .i64 i0) ∧ w'.cell? ⟨w.heap.size, 1, none⟩ = some (.slice A n c) ∧ w'.cell? ⟨w.heap.size, 2, none⟩ = some (.slice B m d) ∧ w'.cell? ⟨w.heap.size, 3, none⟩ = some (.int .i64 t0) ∧ w.heap.size < w'.heap.size ∧ w.heap.size + 1 < w'.heap.size ∧ w'.frozen? ⟨w.heap.size + 1, 0, none⟩ = false ∧ w'.frozen? ⟨w.heap.size + 1, 1, none⟩ = false ∧ w'.frozen? ⟨w.heap.size + 1, 2, none⟩ = false ∧ w'.frozen? ⟨w.heap.size + 1, 3, none⟩ = false ∧ w'.cell? ⟨w.heap.size + 1, 0, none⟩ = some (cur w' ⟨w.heap.size + 1, 0, none⟩) ∧ w'.cell? ⟨w.heap.size + 1, 1, none⟩ = some (cur w' ⟨w.heap.size + 1, 1, none⟩) ∧ w'.cell? ⟨w.heap.size + 1, 2, none⟩ = some (cur w' ⟨w.heap.size + 1, 2, none⟩) ∧ w'.cell? ⟨w.heap.size + 1, 3, none⟩ = some (cur w' ⟨w.heap.size + 1, 3, none⟩))
    (first | exact hS0 | exact CopyS.below (by assumption) (Below.drew (Below.refl _ _)) | exact CopyS.below (by assumption) (Below.alloc (Below.refl _ _) (Nat.le_refl _) _) | exact CopyS.below2 (by assumption) (by assumption) | exact CopyS.set4 (by assumption) _ _ _ _ | assumption)
    (first
      | (refine step_append_copy rfl _ _ 27 rfl 45 ia _ 7 56 Try.underlying27 hia hza hsa hya (by simp [Value.cells]) (by decide) _ rfl w.heap.size A n c zp rfl hn (by decide) (by first | exact Blk.drew (Blk.new_at _ _ _ _ (by simp)) | exact Blk.drew ((Blk.new_at _ _ _ _ (by simp)).alloc _)) (by have h5 := HV.out; (try simp); omega) (HP.out _ (@CopyS.b w w.heap.size (w.heap.size + 1) (.int .i64 i0) (.slice A n c) (.slice B m d) (.int .i64 t0) _ (by assumption))) ?_; intro eA cA wA RA bA lA oA)
      | (refine step_append_copy rfl _ _ 30 rfl 75 ib _ 4 32 Try.underlying30 hib hzb hsb hyb (by simp [Value.cells]) (by decide) _ rfl w.heap.size B m d zq rfl hm (by decide) (by first | exact Blk.new_at _ _ _ _ (by simp) | exact Blk.below2 (by assumption) (Blk.drew (Blk.new_at _ _ _ _ (by simp))) | exact Blk.below2 (by assumption) (Blk.drew ((Blk.new_at _ _ _ _ (by simp)).alloc _))) (by have h5 := HV.out; have h6 := Below.size (by assumption : Below _ _ wA); (try simp); (try simp at h6); omega) (HQ.out _ (@CopyS.b w w.heap.size (w.heap.size + 1) (.int .i64 i0) (.slice A n c) (.slice B m d) (.int .i64 t0) _ (by assumption))) ?_; intro eB cB wB RB bB lB oB))
  all_goals
    rename_i hHx
    clear hHx hS0
    have zA := bA.size
    have zB := bB.size
    have h5 := HV.out
    have bA2 : Below v.heap.size v wA := by
      first
        | exact bthen (((Below.refl v.heap.size v).alloc (Nat.le_refl _) _).drew) bA
        | exact bthen ((((Below.refl v.heap.size v).alloc (Nat.le_refl _) _).alloc (by simp) _).drew) bA
    have bAB : Below wA.heap.size wA wB := by
      first
        | exact bB
        | exact bthen ((Below.refl wA.heap.size wA).alloc (Nat.le_refl _) _) bB
    have bB2 := bthen bA2 bAB
    have nA : eA ≠ w.heap.size + 1 := by (try simp at oA); (try simp at zA); omega
    have nB : eB ≠ w.heap.size + 1 := by (try simp at oB); (try simp at zA); (try simp at zB); omega
    have hne : eA ≠ eB := by (try simp at oA); (try simp at oB); (try simp at zA); (try simp at zB); omega
    have KB := HRB.out.below bB2
    have RA2 := RA.below bAB
    have hb := bthen Hb0.out bB2
    have KF := Lib.hid ((((KB.set_ 0 (.int .i64 i0)).set_ 1 (.slice (some ⟨eA, 0, none⟩) n cA)).set_ 2 (.slice (some ⟨eB, 0, none⟩) m cB)).set_ 3 (.int .i64 t0))
    have FA := Lib.hid ((((RA2.far (p := ⟨w.heap.size + 1, 0, none⟩) (fun a ha => by injection ha with ha; subst ha; exact nA) (.int .i64 i0)).far (p := ⟨w.heap.size + 1, 1, none⟩) (fun a ha => by injection ha with ha; subst ha; exact nA) (.slice (some ⟨eA, 0, none⟩) n cA)).far (p := ⟨w.heap.size + 1, 2, none⟩) (fun a ha => by injection ha with ha; subst ha; exact nA) (.slice (some ⟨eB, 0, none⟩) m cB)).far (p := ⟨w.heap.size + 1, 3, none⟩) (fun a ha => by injection ha with ha; subst ha; exact nA) (.int .i64 t0))
    have FB := Lib.hid ((((RB.far (p := ⟨w.heap.size + 1, 0, none⟩) (fun a ha => by injection ha with ha; subst ha; exact nB) (.int .i64 i0)).far (p := ⟨w.heap.size + 1, 1, none⟩) (fun a ha => by injection ha with ha; subst ha; exact nB) (.slice (some ⟨eA, 0, none⟩) n cA)).far (p := ⟨w.heap.size + 1, 2, none⟩) (fun a ha => by injection ha with ha; subst ha; exact nB) (.slice (some ⟨eB, 0, none⟩) m cB)).far (p := ⟨w.heap.size + 1, 3, none⟩) (fun a ha => by injection ha with ha; subst ha; exact nB) (.int .i64 t0))
    have FF := Lib.hid ((((hb.setCell (p := ⟨w.heap.size + 1, 0, none⟩) (Nat.le_succ _) (.int .i64 i0)).setCell (p := ⟨w.heap.size + 1, 1, none⟩) (Nat.le_succ _) (.slice (some ⟨eA, 0, none⟩) n cA)).setCell (p := ⟨w.heap.size + 1, 2, none⟩) (Nat.le_succ _) (.slice (some ⟨eB, 0, none⟩) m cB)).setCell (p := ⟨w.heap.size + 1, 3, none⟩) (Nat.le_succ _) (.int .i64 t0))
    clear zA zB h5 bA bB bA2 bAB bB2 RA RB RA2 hb oA oB lA lB KB nA nB
    have q0 := KF.out.cell 0
    have q1 := KF.out.cell 1
    have q2 := KF.out.cell 2
    have q3 := KF.out.cell 3
    go_wp2
    refine bodyPost_ret (v := .agg #[.int .i64 i0, .slice (some ⟨eA, 0, none⟩) n cA, .slice (some ⟨eB, 0, none⟩) m cB, .int .i64 t0]) (by simp [results, Try.results25, go_sem, *]) rfl ⟨_, _, _, _, rfl, FA.out, FB.out, hne, FF.out⟩
end Go.Proofs.Ytckbnfgdjdppfaa
