/- Part 5 of what the claim rests on: LpA, LpB, LoP, LoQ, LoR. No condition of its own. -/
import Derived.Test.YtbheflinchabgaaGreatDoorBd4
namespace Go.Proofs.YtbheflinchabgaaGreatDoor
set_option linter.unusedSimpArgs false
set_option linter.unusedVariables false
attribute [local go_sem] n_lt2 n_lt3 n_lt4 n_le2 n_le3
open Go.RowKit
attribute [local go_sem] Ext.cell Ext.frozen
/-- The node behind a fresh request. -/
def RetFresh (w : World) (lo n : Nat) (es : List En) (z : List Int) (p : En) (e : Ending) (w' : World) : Prop := ∃ KA cA WA dA KB cB WB dB H hc X xc L lc S sc O oc, e = .returned (.tuple #[.agg #[.slice KA 22 cA, .slice WA 1 dA, .slice KB 22 cB, .slice WB 1 dB, .int .i64 0, .int .i64 0, .int .i64 0, .slice H 0 hc, .int .i64 0, .int .i64 0, .int .i64 0, .slice X 0 xc, .bool false, .int .i64 0, .int .i64 0, .slice L (n + 1) lc, .slice S 1 sc, .int .i64 (n : Nat), .slice O 1 oc], .nilIface]) ∧
  On (Rg lo w'.heap.size) (fun x => LgW x KA WA KB WB L S O lc 1 (n + 1) 1 1 (es ++ [p]) n z) w' ∧ Below lo w w'
theorem row_not_blk {w : World} {lo e e' s n : Nat} {g cap : Nat} {xs : List Value} {cs : Array Value} (h : w.ownsRow lo e s (.slice (some ⟨g, 0, none⟩) n cap) n xs) (hb : Blk w g e' cs) (hne : e ≠ e') : False := by
  rcases h.2 with ⟨h0, _⟩ | ⟨g', cap', cur, hv, _, hg, _⟩
  · cases h0
  · injection hv with h1
    injection h1 with h1
    injection h1 with h1
    subst h1
    rw [show w.heap[g]? = _ from hb] at hg
    cases hg
    exact hne rfl
set_option maxRecDepth 100000 in
set_option maxHeartbeats 8000000 in
theorem recorded_yes (KA : Option Addr) (cA : Nat) (WA : Option Addr) (dA : Nat) (KB : Option Addr) (cB : Nat) (WB : Option Addr) (dB : Nat) (H : Option Addr) (hc : Nat) (X : Option Addr) (xc : Nat) (L : Option Addr) (lc : Nat) (S : Option Addr) (sc : Nat) (O : Option Addr) (oc : Nat) (n ns lo : Nat) (es : List En) (z : List Int) (ea eb et now : Int) (het : et = max now (timeL es)) (w : World) (hG : LgW w KA WA KB WB L S O lc 0 n ns 0 es n z) (hO : Own3 w lo L S O lc oc n 0 es n) (hlo : lo ≤ w.heap.size) (hn7 : n < 8) (hp : entsP (es ++ [⟨(n : Int) + 1, et, 4, (n : Int) + 1, 1, ea, eb, 0, 0⟩])) (ht : timeL es ≤ et) :
    Calls Tryz.prog 33 #[.agg #[.slice KA 22 cA, .slice WA 0 dA, .slice KB 22 cB, .slice WB 0 dB, .int .i64 0, .int .i64 0, .int .i64 0, .slice H 0 hc, .int .i64 0, .int .i64 0, .int .i64 0, .slice X 0 xc, .bool false, .int .i64 0, .int .i64 0, .slice L n lc, .slice S ns sc, .int .i64 (n : Nat), .slice O 0 oc], .agg #[.int .i64 4, .int .i64 ((n : Int) + 1), .int .i64 1, .int .i64 ea, .int .i64 eb, .int .i64 0, .int .i64 0], .int .i64 now] w (RetFresh w lo n es z ⟨(n : Int) + 1, et, 4, (n : Int) + 1, 1, ea, eb, 0, 0⟩) := by
  have HNN := Lib.hid hG.hn
  have HNS := Lib.hid hG.hs
  have HPP := Lib.hid hp
  have HZ := Lib.hid hG.z
  have HTM := Lib.hid ht
  have HOW := Lib.hid hO
  have HLC := Lib.hid hG.hl
  have hpn := hp.2.1 n (by rw [List.length_append, ← hG.hn]; simp)
  rw [show (es ++ [(⟨(n : Int) + 1, et, 4, (n : Int) + 1, 1, ea, eb, 0, 0⟩ : En)]).getD n default = ⟨(n : Int) + 1, et, 4, (n : Int) + 1, 1, ea, eb, 0, 0⟩ by rw [hG.hn]; simp [List.getD]] at hpn
  have HEB := Lib.hid (show entryB ((n : Int) + 1) et 4 ((n : Int) + 1) 1 ea eb 0 0 = true from entP_ok hpn (by omega))
  have HNM := Lib.hid (slotL_nums hpn (by omega))
  have HET := Lib.hid (show (if now < timeL es then timeL es else now) = et by rw [het]; split <;> omega)
  clear hpn hp ht hO het
  have HIG : Hid (On (Rg 0 w.heap.size) (fun x => LgW x KA WA KB WB L S O lc 0 n ns 0 es n z) w) := Lib.hid (On.below_of (fun _ hb => (hG).below hb))
  clear hG
  go_enter Tryz.func33, Tryz.ntmps33
  go_upto_region 1 with fail
  obtain ⟨v0, hv0⟩ : ∃ x : World, x = (((w.alloc (.cells #[.slice KA 22 cA, .slice WA 0 dA, .slice KB 22 cB, .slice WB 0 dB, .int .i64 0, .int .i64 0, .int .i64 0, .slice H 0 hc, .int .i64 0, .int .i64 0, .int .i64 0, .slice X 0 xc, .bool false, .int .i64 0, .int .i64 0, .slice L n lc, .slice S ns sc, .int .i64 (n : Nat), .slice O 0 oc] 51)).alloc (.cells #[.int .i64 4, .int .i64 ((n : Int) + 1), .int .i64 1, .int .i64 ea, .int .i64 eb, .int .i64 0, .int .i64 0] 56)).alloc (.cells #[.slice none 0 0, .slice none 0 0, .slice none 0 0, .slice none 0 0, .int .i64 0, .int .i64 0, .int .i64 0, .slice none 0 0, .int .i64 0, .int .i64 0, .int .i64 0, .slice none 0 0, .bool false, .int .i64 0, .int .i64 0, .slice none 0 0, .slice none 0 0, .int .i64 0, .slice none 0 0] 51)) := ⟨_, rfl⟩
  rw [← hv0]
  have f0 : Below w.heap.size w v0 := by rw [hv0]; (repeat' (first | (with_reducible exact Below.refl _ _) | (with_reducible assumption) | (with_reducible refine Below.alloc ?_ ?_ _) | (with_reducible refine Below.drew ?_) | (with_reducible refine Below.setCell ?_ ?_ _) | (with_reducible refine bstep (by assumption) ?_ ?_) | (with_reducible exact Nat.le_refl _) | omega | (simp [*]; done) | (simp [*]; omega)))
  have z0 : w.heap.size + 3 ≤ v0.heap.size := by rw [hv0]; simp [size_set]
  have HN_0 : Hid (Blk v0 w.heap.size 51 #[.slice KA 22 cA, .slice WA 0 dA, .slice KB 22 cB, .slice WB 0 dB, .int .i64 0, .int .i64 0, .int .i64 0, .slice H 0 hc, .int .i64 0, .int .i64 0, .int .i64 0, .slice X 0 xc, .bool false, .int .i64 0, .int .i64 0, .slice L n lc, .slice S ns sc, .int .i64 (n : Nat), .slice O 0 oc]) := by rw [hv0]; exact Lib.hid ((((Blk.new_at _ _ _ _ (by simp [size_set]))).alloc _).alloc _)
  have HQ_0 : Hid (Blk v0 (w.heap.size + 1) 56 #[.int .i64 4, .int .i64 ((n : Int) + 1), .int .i64 1, .int .i64 ea, .int .i64 eb, .int .i64 0, .int .i64 0]) := by rw [hv0]; exact Lib.hid (((Blk.new_at _ _ _ _ (by simp [size_set]))).alloc _)
  have HR_0 : Hid (Blk v0 (w.heap.size + 2) 51 #[.slice none 0 0, .slice none 0 0, .slice none 0 0, .slice none 0 0, .int .i64 0, .int .i64 0, .int .i64 0, .slice none 0 0, .int .i64 0, .int .i64 0, .int .i64 0, .slice none 0 0, .bool false, .int .i64 0, .int .i64 0, .slice none 0 0, .slice none 0 0, .int .i64 0, .slice none 0 0]) := by rw [hv0]; exact Lib.hid ((Blk.new_at _ _ _ _ (by simp [size_set])))
  clear hv0
  obtain ⟨gR, hgR⟩ : ∃ q, q = w.heap.size + 2 := ⟨_, rfl⟩
  rw [← hgR] at HR_0
  try rw [← hgR]
  have lgR : w.heap.size ≤ gR := by omega
  have mgR : gR < v0.heap.size := by omega
  have ngR : ∀ k, w.heap.size ≤ k → k ≠ gR → True := fun _ _ _ => trivial
  clear ngR
  obtain ⟨gQ, hgQ⟩ : ∃ q, q = w.heap.size + 1 := ⟨_, rfl⟩
  rw [← hgQ] at HQ_0
  try rw [← hgQ]
  have lgQ : w.heap.size ≤ gQ := by omega
  have mgQ : gQ < v0.heap.size := by omega
  have ngQ : ∀ k, w.heap.size ≤ k → k ≠ gQ → True := fun _ _ _ => trivial
  clear ngQ
  obtain ⟨gN, hgN⟩ : ∃ q, q = w.heap.size := ⟨_, rfl⟩
  rw [← hgN] at HN_0
  try rw [← hgN]
  have lgN : w.heap.size ≤ gN := by omega
  have mgN : gN < v0.heap.size := by omega
  have ngN : ∀ k, w.heap.size ≤ k → k ≠ gN → True := fun _ _ _ => trivial
  clear ngN
  have nnNQ : gN < gQ := by omega
  have nnNR : gN < gR := by omega
  have nnQR : gQ < gR := by omega
  clear hgN
  clear hgQ
  clear hgR
  have HGI := Lib.hid (fun (X : World) (hb : Below w.heap.size w X) => (HIG.out.inB hb (fun _ hk => hk.2)).out)
  go_cut [8] from 11 (fun px wx => ∃ g, px = .pointer (some ⟨g, 0, none⟩) ∧ v0.heap.size ≤ g ∧ Blk wx g 76 #[.int .i64 ((n : Int) + 1), .int .i64 et, .int .i64 4, .int .i64 ((n : Int) + 1), .int .i64 1, .int .i64 ea, .int .i64 eb, .int .i64 0, .int .i64 0] ∧ Below v0.heap.size v0 wx)
  case first =>
    refine wp_region_held_drew (S := fun w' => Blk w' gN 51 #[.slice KA 22 cA, .slice WA 0 dA, .slice KB 22 cB, .slice WB 0 dB, .int .i64 0, .int .i64 0, .int .i64 0, .slice H 0 hc, .int .i64 0, .int .i64 0, .int .i64 0, .slice X 0 xc, .bool false, .int .i64 0, .int .i64 0, .slice L n lc, .slice S ns sc, .int .i64 (n : Nat), .slice O 0 oc] ∧ Blk w' gQ 56 #[.int .i64 4, .int .i64 ((n : Int) + 1), .int .i64 1, .int .i64 ea, .int .i64 eb, .int .i64 0, .int .i64 0]) (by kernel_rfl) ⟨HN_0.out.drew, HQ_0.out.drew⟩ (fun hS => ?_)
    obtain ⟨u0, hu0⟩ : ∃ x : World, x = v0.drew := ⟨_, rfl⟩
    rw [← hu0] at hS ⊢
    have E0 : Below v0.heap.size v0 u0 := by rw [hu0]; exact Below.drew (Below.refl _ _)
    clear hu0
    refine wpAnyH_take (i := 0) (oi := _) (v := ?_) rfl (by kernel_rfl) (by kernel_rfl) (by kernel_rfl) (fun _ _ _ h => h) (Or.inl ⟨by rfl, ?_⟩) hS ?_
    rotate_left 1
    · intro w hSw; clear hSw; (go_simp <;> with_reducible rfl)
    change wpAnyH _ _ _ _ _ _ _ (Act.put _ (some 11) _) _
    simp only [Act.put, List.setIfInBounds_toArray, List.set_cons_zero, List.set_cons_succ]
    refine wpAnyH_take (i := 1) (oi := _) (v := _) rfl (by kernel_rfl) (by kernel_rfl) (by kernel_rfl) (fun _ _ _ h => h) (yieldsIf_load_mid (by rfl) 48 (.tmp 11) rfl gN 13 rfl [.int .i64 0, .int .i64 0, .slice L n lc] _ (fun w' h => blk_part h.1 13 3 _ rfl) Tryz.underlying48 rfl (by kernel_rfl)) hS ?_
    change wpAnyH _ _ _ _ _ _ _ (Act.put _ (some 12) _) _
    simp only [Act.put, List.setIfInBounds_toArray, List.set_cons_zero, List.set_cons_succ]
    refine wpAnyH_take (i := 4) (oi := _) (v := ?_) rfl (by kernel_rfl) (by kernel_rfl) (by kernel_rfl) (fun _ _ _ h => h) (Or.inl ⟨by rfl, ?_⟩) hS ?_
    rotate_left 1
    · intro w hSw; clear hSw; (go_simp <;> with_reducible rfl)
    change wpAnyH _ _ _ _ _ _ _ (Act.put _ (some 15) _) _
    simp only [Act.put, List.setIfInBounds_toArray, List.set_cons_zero, List.set_cons_succ]
    refine wpAnyH_take (i := 5) (oi := _) (v := ?_) rfl (by kernel_rfl) (by kernel_rfl) (by kernel_rfl) (fun _ _ _ h => h) (Or.inl ⟨by rfl, ?_⟩) hS ?_
    rotate_left 1
    · intro w hSw; clear hSw; (go_simp <;> with_reducible rfl)
    change wpAnyH _ _ _ _ _ _ _ (Act.put _ (some 16) _) _
    simp only [Act.put, List.setIfInBounds_toArray, List.set_cons_zero, List.set_cons_succ]
    refine wpAnyH_take (i := 6) (oi := _) (v := _) rfl (by kernel_rfl) (by kernel_rfl) (by kernel_rfl) (fun _ _ _ h => h) (yieldsIf_load_mid (by rfl) 48 (.tmp 16) rfl gN 13 rfl [.int .i64 0, .int .i64 0, .slice L n lc] _ (fun w' h => blk_part h.1 13 3 _ rfl) Tryz.underlying48 rfl (by kernel_rfl)) hS ?_
    change wpAnyH _ _ _ _ _ _ _ (Act.put _ (some 17) _) _
    simp only [Act.put, List.setIfInBounds_toArray, List.set_cons_zero, List.set_cons_succ]
    refine wpAnyH_take (i := 9) (oi := _) (v := ?_) rfl (by kernel_rfl) (by kernel_rfl) (by kernel_rfl) (fun _ _ _ h => h) (Or.inl ⟨by rfl, ?_⟩) hS ?_
    rotate_left 1
    · intro w hSw; clear hSw; (go_simp <;> with_reducible rfl)
    change wpAnyH _ _ _ _ _ _ _ (Act.put _ (some 20) _) _
    simp only [Act.put, List.setIfInBounds_toArray, List.set_cons_zero, List.set_cons_succ]
    refine wpAnyH_take (i := 10) (oi := _) (v := .int .i64 4) rfl (by kernel_rfl) (by kernel_rfl) (by kernel_rfl) (fun _ _ _ h => h) (Or.inl ⟨by rfl, fun w' h => by have c : w'.cell? ⟨gQ, 0, none⟩ = some (.int .i64 4) := Blk.cell h.2 0; clear h; go_simp⟩) hS ?_
    change wpAnyH _ _ _ _ _ _ _ (Act.put _ (some 21) _) _
    simp only [Act.put, List.setIfInBounds_toArray, List.set_cons_zero, List.set_cons_succ]
    refine wpAnyH_take (i := 11) (oi := _) (v := ?_) rfl (by kernel_rfl) (by kernel_rfl) (by kernel_rfl) (fun _ _ _ h => h) (Or.inl ⟨by rfl, ?_⟩) hS ?_
    rotate_left 1
    · intro w hSw; clear hSw; (go_simp <;> with_reducible rfl)
    change wpAnyH _ _ _ _ _ _ _ (Act.put _ (some 22) _) _
    simp only [Act.put, List.setIfInBounds_toArray, List.set_cons_zero, List.set_cons_succ]
    refine wpAnyH_take (i := 12) (oi := _) (v := .int .i64 ((n : Int) + 1)) rfl (by kernel_rfl) (by kernel_rfl) (by kernel_rfl) (fun _ _ _ h => h) (Or.inl ⟨by rfl, fun w' h => by have c : w'.cell? ⟨gQ, 1, none⟩ = some (.int .i64 ((n : Int) + 1)) := Blk.cell h.2 1; clear h; go_simp⟩) hS ?_
    change wpAnyH _ _ _ _ _ _ _ (Act.put _ (some 23) _) _
    simp only [Act.put, List.setIfInBounds_toArray, List.set_cons_zero, List.set_cons_succ]
    refine wpAnyH_take (i := 13) (oi := _) (v := ?_) rfl (by kernel_rfl) (by kernel_rfl) (by kernel_rfl) (fun _ _ _ h => h) (Or.inl ⟨by rfl, ?_⟩) hS ?_
    rotate_left 1
    · intro w hSw; clear hSw; (go_simp <;> with_reducible rfl)
    change wpAnyH _ _ _ _ _ _ _ (Act.put _ (some 24) _) _
    simp only [Act.put, List.setIfInBounds_toArray, List.set_cons_zero, List.set_cons_succ]
    refine wpAnyH_take (i := 14) (oi := _) (v := _) rfl (by kernel_rfl) (by kernel_rfl) (by kernel_rfl) (fun _ _ _ h => h) (yieldsIf_load_mid (by rfl) 30 (.tmp 24) rfl gQ 2 rfl [.int .i64 1, .int .i64 ea, .int .i64 eb, .int .i64 0, .int .i64 0] _ (fun w' h => blk_part h.2 2 5 _ rfl) Tryz.underlying30 rfl (by kernel_rfl)) hS ?_
    change wpAnyH _ _ _ _ _ _ _ (Act.put _ (some 25) _) _
    simp only [Act.put, List.setIfInBounds_toArray, List.set_cons_zero, List.set_cons_succ]
    refine wpAnyH_ready (rs := [2, 16]) (by kernel_rfl) (by simp) ?_
    refine AllReadyH.cons rfl (fun K hK => ?_) ?_
    · skip
      go_simp
      go_at_call 38
      refine (lastOf_zero L n lc _ (by omega)).mono ?_
      rintro e u1 ⟨rfl, e1⟩
      have E1 : Below v0.heap.size v0 u1 := bthen E0 e1
      refine hK.out _ _ (⟨HN_0.out.below E1, HQ_0.out.below E1⟩) (fun hS => ?_)
      clear hK K
      try change wpAnyH _ _ _ _ _ _ _ (Act.put _ (some 13) _) _
      try simp only [Act.put, List.setIfInBounds_toArray, List.set_cons_zero, List.set_cons_succ]
      refine wpAnyH_take (i := 3) (oi := _) (v := .int .i64 ((n : Int) + 1)) rfl (by kernel_rfl) (by kernel_rfl) (by kernel_rfl) (fun _ _ _ h => h) (Or.inl ⟨by rfl, fun w' h => by clear h; have hw : IntKind.i64.wrap ((n : Int) + 1) = (n : Int) + 1 := wrap_small (by omega); go_simp; try exact hw⟩) hS ?_
      change wpAnyH _ _ _ _ _ _ _ (Act.put _ (some 14) _) _
      simp only [Act.put, List.setIfInBounds_toArray, List.set_cons_zero, List.set_cons_succ]
      refine wpAnyH_ready (rs := [7, 16]) (by kernel_rfl) (by simp) ?_
      refine AllReadyH.cons rfl (fun K hK => ?_) ?_
      · skip
        go_simp
        go_at_call 70
        refine (timeOf_zero L n lc es _ (HGI.out _ (bthen f0 E1)).l HNN.out.symm (by omega)).mono ?_
        rintro e u2 ⟨rfl, e2⟩
        have E2 : Below v0.heap.size v0 u2 := bthen E1 e2
        refine hK.out _ _ (⟨HN_0.out.below E2, HQ_0.out.below E2⟩) (fun hS => ?_)
        clear hK K
        try change wpAnyH _ _ _ _ _ _ _ (Act.put _ (some 18) _) _
        try simp only [Act.put, List.setIfInBounds_toArray, List.set_cons_zero, List.set_cons_succ]
        refine wpAnyH_take (i := 8) (oi := _) (v := .int .i64 et) rfl (by kernel_rfl) (by kernel_rfl) (by kernel_rfl) (fun _ _ _ h => h) (Or.inl ⟨by rfl, fun w' h => by clear h; go_simp; exact HET.out⟩) hS ?_
        change wpAnyH _ _ _ _ _ _ _ (Act.put _ (some 19) _) _
        simp only [Act.put, List.setIfInBounds_toArray, List.set_cons_zero, List.set_cons_succ]
        refine wpAnyH_take (i := 15) (oi := _) (v := ?_) rfl (by kernel_rfl) (by kernel_rfl) (by kernel_rfl) (fun _ _ _ h => h) (Or.inl ⟨by rfl, ?_⟩) hS ?_
        rotate_left 1
        · intro w hSw; clear hSw; (go_simp <;> with_reducible rfl)
        change wpAnyH _ _ _ _ _ _ _ (Act.put _ (some 26) _) _
        simp only [Act.put, List.setIfInBounds_toArray, List.set_cons_zero, List.set_cons_succ]
        refine wpAnyH_ready (rs := [16]) (by kernel_rfl) (by simp) ?_
        refine AllReadyH.cons rfl (fun K hK => ?_) ?_
        · skip
          go_simp
          obtain ⟨u3, hu⟩ : ∃ x : World, x = u2.alloc (.cells #[.int .i64 0, .int .i64 0, .int .i64 0, .int .i64 0, .int .i64 0, .int .i64 0, .int .i64 0, .int .i64 0, .int .i64 0] 76) := ⟨_, rfl⟩
          rw [← hu]
          have e3 : Below u2.heap.size u2 u3 := by rw [hu]; exact (Below.refl _ _).alloc (Nat.le_refl _) _
          have KE : Blk u3 u2.heap.size 76 #[.int .i64 0, .int .i64 0, .int .i64 0, .int .i64 0, .int .i64 0, .int .i64 0, .int .i64 0, .int .i64 0, .int .i64 0] := by rw [hu]; exact Blk.new u2 _ _
          clear hu
          have lE0 := E2.size
          obtain ⟨gE, hgE⟩ : ∃ q, q = u2.heap.size := ⟨_, rfl⟩
          rw [← hgE] at KE lE0 ⊢
          clear hgE
          have HKE := Lib.hid (fun (X : World) (hb : Below u3.heap.size u3 X) => KE.below hb)
          clear KE
          have E3 : Below v0.heap.size v0 u3 := bthen E2 e3
          refine hK.out _ _ (⟨HN_0.out.below E3, HQ_0.out.below E3⟩) (fun hS => ?_)
          clear hK K
          try change wpAnyH _ _ _ _ _ _ _ (Act.put _ (some 8) _) _
          try simp only [Act.put, List.setIfInBounds_toArray, List.set_cons_zero, List.set_cons_succ]
          refine wpAnyH_ready (rs := [17]) (by kernel_rfl) (by simp) ?_
          refine AllReadyH.cons rfl (fun K hK => ?_) ?_
          · skip
            have KF := HKE.out u3 (Below.refl u3.heap.size u3)
            have x0 := KF.cell 0
            have w0 := KF.frozen 0
            have x1 := KF.cell 1
            have w1 := KF.frozen 1
            have x2 := KF.cell 2
            have w2 := KF.frozen 2
            have x3 := KF.cell 3
            have w3 := KF.frozen 3
            have x4 := KF.cell 4
            have w4 := KF.frozen 4
            have x5 := KF.cell 5
            have w5 := KF.frozen 5
            have x6 := KF.cell 6
            have w6 := KF.frozen 6
            have x7 := KF.cell 7
            have w7 := KF.frozen 7
            have x8 := KF.cell 8
            have w8 := KF.frozen 8
            have ltE := KF.lt
            go_simp
            refine hK.out _ _ (⟨(((((((((hS.1).far (p := ⟨gE, 0, none⟩) (show gN ≠ gE by omega) _).far (p := ⟨gE, 1, none⟩) (show gN ≠ gE by omega) _).far (p := ⟨gE, 2, none⟩) (show gN ≠ gE by omega) _).far (p := ⟨gE, 3, none⟩) (show gN ≠ gE by omega) _).far (p := ⟨gE, 4, none⟩) (show gN ≠ gE by omega) _).far (p := ⟨gE, 5, none⟩) (show gN ≠ gE by omega) _).far (p := ⟨gE, 6, none⟩) (show gN ≠ gE by omega) _).far (p := ⟨gE, 7, none⟩) (show gN ≠ gE by omega) _).far (p := ⟨gE, 8, none⟩) (show gN ≠ gE by omega) _, (((((((((hS.2).far (p := ⟨gE, 0, none⟩) (show gQ ≠ gE by omega) _).far (p := ⟨gE, 1, none⟩) (show gQ ≠ gE by omega) _).far (p := ⟨gE, 2, none⟩) (show gQ ≠ gE by omega) _).far (p := ⟨gE, 3, none⟩) (show gQ ≠ gE by omega) _).far (p := ⟨gE, 4, none⟩) (show gQ ≠ gE by omega) _).far (p := ⟨gE, 5, none⟩) (show gQ ≠ gE by omega) _).far (p := ⟨gE, 6, none⟩) (show gQ ≠ gE by omega) _).far (p := ⟨gE, 7, none⟩) (show gQ ≠ gE by omega) _).far (p := ⟨gE, 8, none⟩) (show gQ ≠ gE by omega) _⟩) (fun hS => ?_)
            clear hK K
            try change wpAnyH _ _ _ _ _ _ _ (Act.put _ none _) _
            try simp only [Act.put, List.setIfInBounds_toArray, List.set_cons_zero, List.set_cons_succ]
            refine wpAnyH_done (by kernel_rfl) ?_ _
            go_wp2_with fail
            go_meet
            exact ⟨gE, rfl, lE0, nine_sets KF, nine_below E3 lE0⟩
          exact AllReadyH.nil
        exact AllReadyH.nil
      refine AllReadyH.cons rfl (fun K hK => ?_) ?_
      · skip
        go_simp
        obtain ⟨u2, hu⟩ : ∃ x : World, x = u1.alloc (.cells #[.int .i64 0, .int .i64 0, .int .i64 0, .int .i64 0, .int .i64 0, .int .i64 0, .int .i64 0, .int .i64 0, .int .i64 0] 76) := ⟨_, rfl⟩
        rw [← hu]
        have e2 : Below u1.heap.size u1 u2 := by rw [hu]; exact (Below.refl _ _).alloc (Nat.le_refl _) _
        have KE : Blk u2 u1.heap.size 76 #[.int .i64 0, .int .i64 0, .int .i64 0, .int .i64 0, .int .i64 0, .int .i64 0, .int .i64 0, .int .i64 0, .int .i64 0] := by rw [hu]; exact Blk.new u1 _ _
        clear hu
        have lE0 := E1.size
        obtain ⟨gE, hgE⟩ : ∃ q, q = u1.heap.size := ⟨_, rfl⟩
        rw [← hgE] at KE lE0 ⊢
        clear hgE
        have HKE := Lib.hid (fun (X : World) (hb : Below u2.heap.size u2 X) => KE.below hb)
        clear KE
        have E2 : Below v0.heap.size v0 u2 := bthen E1 e2
        refine hK.out _ _ (⟨HN_0.out.below E2, HQ_0.out.below E2⟩) (fun hS => ?_)
        clear hK K
        try change wpAnyH _ _ _ _ _ _ _ (Act.put _ (some 8) _) _
        try simp only [Act.put, List.setIfInBounds_toArray, List.set_cons_zero, List.set_cons_succ]
        refine wpAnyH_ready (rs := [7]) (by kernel_rfl) (by simp) ?_
        refine AllReadyH.cons rfl (fun K hK => ?_) ?_
        · skip
          go_simp
          go_at_call 70
          refine (timeOf_zero L n lc es _ (HGI.out _ (bthen f0 E2)).l HNN.out.symm (by omega)).mono ?_
          rintro e u3 ⟨rfl, e3⟩
          have E3 : Below v0.heap.size v0 u3 := bthen E2 e3
          refine hK.out _ _ (⟨HN_0.out.below E3, HQ_0.out.below E3⟩) (fun hS => ?_)
          clear hK K
          try change wpAnyH _ _ _ _ _ _ _ (Act.put _ (some 18) _) _
          try simp only [Act.put, List.setIfInBounds_toArray, List.set_cons_zero, List.set_cons_succ]
          refine wpAnyH_take (i := 8) (oi := _) (v := .int .i64 et) rfl (by kernel_rfl) (by kernel_rfl) (by kernel_rfl) (fun _ _ _ h => h) (Or.inl ⟨by rfl, fun w' h => by clear h; go_simp; exact HET.out⟩) hS ?_
          change wpAnyH _ _ _ _ _ _ _ (Act.put _ (some 19) _) _
          simp only [Act.put, List.setIfInBounds_toArray, List.set_cons_zero, List.set_cons_succ]
          refine wpAnyH_take (i := 15) (oi := _) (v := ?_) rfl (by kernel_rfl) (by kernel_rfl) (by kernel_rfl) (fun _ _ _ h => h) (Or.inl ⟨by rfl, ?_⟩) hS ?_
          rotate_left 1
          · intro w hSw; clear hSw; (go_simp <;> with_reducible rfl)
          change wpAnyH _ _ _ _ _ _ _ (Act.put _ (some 26) _) _
          simp only [Act.put, List.setIfInBounds_toArray, List.set_cons_zero, List.set_cons_succ]
          refine wpAnyH_ready (rs := [17]) (by kernel_rfl) (by simp) ?_
          refine AllReadyH.cons rfl (fun K hK => ?_) ?_
          · skip
            have KF := HKE.out u3 ((bthen (Below.refl u2.heap.size u2) e3))
            have x0 := KF.cell 0
            have w0 := KF.frozen 0
            have x1 := KF.cell 1
            have w1 := KF.frozen 1
            have x2 := KF.cell 2
            have w2 := KF.frozen 2
            have x3 := KF.cell 3
            have w3 := KF.frozen 3
            have x4 := KF.cell 4
            have w4 := KF.frozen 4
            have x5 := KF.cell 5
            have w5 := KF.frozen 5
            have x6 := KF.cell 6
            have w6 := KF.frozen 6
            have x7 := KF.cell 7
            have w7 := KF.frozen 7
            have x8 := KF.cell 8
            have w8 := KF.frozen 8
            have ltE := KF.lt
            go_simp
            refine hK.out _ _ (⟨(((((((((hS.1).far (p := ⟨gE, 0, none⟩) (show gN ≠ gE by omega) _).far (p := ⟨gE, 1, none⟩) (show gN ≠ gE by omega) _).far (p := ⟨gE, 2, none⟩) (show gN ≠ gE by omega) _).far (p := ⟨gE, 3, none⟩) (show gN ≠ gE by omega) _).far (p := ⟨gE, 4, none⟩) (show gN ≠ gE by omega) _).far (p := ⟨gE, 5, none⟩) (show gN ≠ gE by omega) _).far (p := ⟨gE, 6, none⟩) (show gN ≠ gE by omega) _).far (p := ⟨gE, 7, none⟩) (show gN ≠ gE by omega) _).far (p := ⟨gE, 8, none⟩) (show gN ≠ gE by omega) _, (((((((((hS.2).far (p := ⟨gE, 0, none⟩) (show gQ ≠ gE by omega) _).far (p := ⟨gE, 1, none⟩) (show gQ ≠ gE by omega) _).far (p := ⟨gE, 2, none⟩) (show gQ ≠ gE by omega) _).far (p := ⟨gE, 3, none⟩) (show gQ ≠ gE by omega) _).far (p := ⟨gE, 4, none⟩) (show gQ ≠ gE by omega) _).far (p := ⟨gE, 5, none⟩) (show gQ ≠ gE by omega) _).far (p := ⟨gE, 6, none⟩) (show gQ ≠ gE by omega) _).far (p := ⟨gE, 7, none⟩) (show gQ ≠ gE by omega) _).far (p := ⟨gE, 8, none⟩) (show gQ ≠ gE by omega) _⟩) (fun hS => ?_)
            clear hK K
            try change wpAnyH _ _ _ _ _ _ _ (Act.put _ none _) _
            try simp only [Act.put, List.setIfInBounds_toArray, List.set_cons_zero, List.set_cons_succ]
            refine wpAnyH_done (by kernel_rfl) ?_ _
            go_wp2_with fail
            go_meet
            exact ⟨gE, rfl, lE0, nine_sets KF, nine_below E3 lE0⟩
          exact AllReadyH.nil
        exact AllReadyH.nil
      exact AllReadyH.nil
    refine AllReadyH.cons rfl (fun K hK => ?_) ?_
    · skip
      go_simp
      obtain ⟨u1, hu⟩ : ∃ x : World, x = u0.alloc (.cells #[.int .i64 0, .int .i64 0, .int .i64 0, .int .i64 0, .int .i64 0, .int .i64 0, .int .i64 0, .int .i64 0, .int .i64 0] 76) := ⟨_, rfl⟩
      rw [← hu]
      have e1 : Below u0.heap.size u0 u1 := by rw [hu]; exact (Below.refl _ _).alloc (Nat.le_refl _) _
      have KE : Blk u1 u0.heap.size 76 #[.int .i64 0, .int .i64 0, .int .i64 0, .int .i64 0, .int .i64 0, .int .i64 0, .int .i64 0, .int .i64 0, .int .i64 0] := by rw [hu]; exact Blk.new u0 _ _
      clear hu
      have lE0 := E0.size
      obtain ⟨gE, hgE⟩ : ∃ q, q = u0.heap.size := ⟨_, rfl⟩
      rw [← hgE] at KE lE0 ⊢
      clear hgE
      have HKE := Lib.hid (fun (X : World) (hb : Below u1.heap.size u1 X) => KE.below hb)
      clear KE
      have E1 : Below v0.heap.size v0 u1 := bthen E0 e1
      refine hK.out _ _ (⟨HN_0.out.below E1, HQ_0.out.below E1⟩) (fun hS => ?_)
      clear hK K
      try change wpAnyH _ _ _ _ _ _ _ (Act.put _ (some 8) _) _
      try simp only [Act.put, List.setIfInBounds_toArray, List.set_cons_zero, List.set_cons_succ]
      refine wpAnyH_ready (rs := [2]) (by kernel_rfl) (by simp) ?_
      refine AllReadyH.cons rfl (fun K hK => ?_) ?_
      · skip
        go_simp
        go_at_call 38
        refine (lastOf_zero L n lc _ (by omega)).mono ?_
        rintro e u2 ⟨rfl, e2⟩
        have E2 : Below v0.heap.size v0 u2 := bthen E1 e2
        refine hK.out _ _ (⟨HN_0.out.below E2, HQ_0.out.below E2⟩) (fun hS => ?_)
        clear hK K
        try change wpAnyH _ _ _ _ _ _ _ (Act.put _ (some 13) _) _
        try simp only [Act.put, List.setIfInBounds_toArray, List.set_cons_zero, List.set_cons_succ]
        refine wpAnyH_take (i := 3) (oi := _) (v := .int .i64 ((n : Int) + 1)) rfl (by kernel_rfl) (by kernel_rfl) (by kernel_rfl) (fun _ _ _ h => h) (Or.inl ⟨by rfl, fun w' h => by clear h; have hw : IntKind.i64.wrap ((n : Int) + 1) = (n : Int) + 1 := wrap_small (by omega); go_simp; try exact hw⟩) hS ?_
        change wpAnyH _ _ _ _ _ _ _ (Act.put _ (some 14) _) _
        simp only [Act.put, List.setIfInBounds_toArray, List.set_cons_zero, List.set_cons_succ]
        refine wpAnyH_ready (rs := [7]) (by kernel_rfl) (by simp) ?_
        refine AllReadyH.cons rfl (fun K hK => ?_) ?_
        · skip
          go_simp
          go_at_call 70
          refine (timeOf_zero L n lc es _ (HGI.out _ (bthen f0 E2)).l HNN.out.symm (by omega)).mono ?_
          rintro e u3 ⟨rfl, e3⟩
          have E3 : Below v0.heap.size v0 u3 := bthen E2 e3
          refine hK.out _ _ (⟨HN_0.out.below E3, HQ_0.out.below E3⟩) (fun hS => ?_)
          clear hK K
          try change wpAnyH _ _ _ _ _ _ _ (Act.put _ (some 18) _) _
          try simp only [Act.put, List.setIfInBounds_toArray, List.set_cons_zero, List.set_cons_succ]
          refine wpAnyH_take (i := 8) (oi := _) (v := .int .i64 et) rfl (by kernel_rfl) (by kernel_rfl) (by kernel_rfl) (fun _ _ _ h => h) (Or.inl ⟨by rfl, fun w' h => by clear h; go_simp; exact HET.out⟩) hS ?_
          change wpAnyH _ _ _ _ _ _ _ (Act.put _ (some 19) _) _
          simp only [Act.put, List.setIfInBounds_toArray, List.set_cons_zero, List.set_cons_succ]
          refine wpAnyH_take (i := 15) (oi := _) (v := ?_) rfl (by kernel_rfl) (by kernel_rfl) (by kernel_rfl) (fun _ _ _ h => h) (Or.inl ⟨by rfl, ?_⟩) hS ?_
          rotate_left 1
          · intro w hSw; clear hSw; (go_simp <;> with_reducible rfl)
          change wpAnyH _ _ _ _ _ _ _ (Act.put _ (some 26) _) _
          simp only [Act.put, List.setIfInBounds_toArray, List.set_cons_zero, List.set_cons_succ]
          refine wpAnyH_ready (rs := [17]) (by kernel_rfl) (by simp) ?_
          refine AllReadyH.cons rfl (fun K hK => ?_) ?_
          · skip
            have KF := HKE.out u3 ((bthen ((bthen (Below.refl u1.heap.size u1) e2)) e3))
            have x0 := KF.cell 0
            have w0 := KF.frozen 0
            have x1 := KF.cell 1
            have w1 := KF.frozen 1
            have x2 := KF.cell 2
            have w2 := KF.frozen 2
            have x3 := KF.cell 3
            have w3 := KF.frozen 3
            have x4 := KF.cell 4
            have w4 := KF.frozen 4
            have x5 := KF.cell 5
            have w5 := KF.frozen 5
            have x6 := KF.cell 6
            have w6 := KF.frozen 6
            have x7 := KF.cell 7
            have w7 := KF.frozen 7
            have x8 := KF.cell 8
            have w8 := KF.frozen 8
            have ltE := KF.lt
            go_simp
            refine hK.out _ _ (⟨(((((((((hS.1).far (p := ⟨gE, 0, none⟩) (show gN ≠ gE by omega) _).far (p := ⟨gE, 1, none⟩) (show gN ≠ gE by omega) _).far (p := ⟨gE, 2, none⟩) (show gN ≠ gE by omega) _).far (p := ⟨gE, 3, none⟩) (show gN ≠ gE by omega) _).far (p := ⟨gE, 4, none⟩) (show gN ≠ gE by omega) _).far (p := ⟨gE, 5, none⟩) (show gN ≠ gE by omega) _).far (p := ⟨gE, 6, none⟩) (show gN ≠ gE by omega) _).far (p := ⟨gE, 7, none⟩) (show gN ≠ gE by omega) _).far (p := ⟨gE, 8, none⟩) (show gN ≠ gE by omega) _, (((((((((hS.2).far (p := ⟨gE, 0, none⟩) (show gQ ≠ gE by omega) _).far (p := ⟨gE, 1, none⟩) (show gQ ≠ gE by omega) _).far (p := ⟨gE, 2, none⟩) (show gQ ≠ gE by omega) _).far (p := ⟨gE, 3, none⟩) (show gQ ≠ gE by omega) _).far (p := ⟨gE, 4, none⟩) (show gQ ≠ gE by omega) _).far (p := ⟨gE, 5, none⟩) (show gQ ≠ gE by omega) _).far (p := ⟨gE, 6, none⟩) (show gQ ≠ gE by omega) _).far (p := ⟨gE, 7, none⟩) (show gQ ≠ gE by omega) _).far (p := ⟨gE, 8, none⟩) (show gQ ≠ gE by omega) _⟩) (fun hS => ?_)
            clear hK K
            try change wpAnyH _ _ _ _ _ _ _ (Act.put _ none _) _
            try simp only [Act.put, List.setIfInBounds_toArray, List.set_cons_zero, List.set_cons_succ]
            refine wpAnyH_done (by kernel_rfl) ?_ _
            go_wp2_with fail
            go_meet
            exact ⟨gE, rfl, lE0, nine_sets KF, nine_below E3 lE0⟩
          exact AllReadyH.nil
        exact AllReadyH.nil
      exact AllReadyH.nil
    exact AllReadyH.nil
  case rest =>
    obtain ⟨gE, rfl, lgE, KE, b1⟩ := hcut
    rename World => v1
    have f1 := bthen f0 b1
    have z1 := b1.size
    have HN_1 := Lib.hid (HN_0.out.below b1)
    have HQ_1 := Lib.hid (HQ_0.out.below b1)
    have HR_1 := Lib.hid (HR_0.out.below b1)
    clear HN_0 HQ_0 HR_0
    have HE_1 := Lib.hid KE
    clear KE
    have mgE := HE_1.out.lt
    have lt_N := HN_1.out.lt
    obtain ⟨r_N0, r_N1, r_N2, r_N3, r_N4, r_N5, r_N6, r_N7, r_N8, r_N9, r_N10, r_N11, r_N12, r_N13, r_N14, r_N15, r_N16, r_N17, r_N18⟩ := bc19 HN_1.out
    have lt_E := HE_1.out.lt
    obtain ⟨r_E0, r_E1, r_E2, r_E3, r_E4, r_E5, r_E6, r_E7, r_E8⟩ := bc9 HE_1.out
    go_wp2_with fail
    refine (fits_yes L n lc es et 4 ((n : Int) + 1) 1 ea eb 0 0 v1 (HGI.out _ f1).l HNN.out.symm (by omega) HEB.out HTM.out).mono ?_
    rintro e v2 ⟨rfl, b2⟩
    have f2 := bthen f1 b2
    have z2 := b2.size
    have HN_2 := Lib.hid (HN_1.out.below b2)
    have HQ_2 := Lib.hid (HQ_1.out.below b2)
    have HR_2 := Lib.hid (HR_1.out.below b2)
    have HE_2 := Lib.hid (HE_1.out.below b2)
    clear lt_N r_N0 r_N1 r_N2 r_N3 r_N4 r_N5 r_N6 r_N7 r_N8 r_N9 r_N10 r_N11 r_N12 r_N13 r_N14 r_N15 r_N16 r_N17 r_N18 lt_E r_E0 r_E1 r_E2 r_E3 r_E4 r_E5 r_E6 r_E7 r_E8
    clear HN_1 HQ_1 HR_1 HE_1
    have lt_N := HN_2.out.lt
    obtain ⟨r_N0, r_N1, r_N2, r_N3, r_N4, r_N5, r_N6, r_N7, r_N8, r_N9, r_N10, r_N11, r_N12, r_N13, r_N14, r_N15, r_N16, r_N17, r_N18⟩ := bc19 HN_2.out
    have lt_E := HE_2.out.lt
    obtain ⟨r_E0, r_E1, r_E2, r_E3, r_E4, r_E5, r_E6, r_E7, r_E8⟩ := bc9 HE_2.out
    go_wp2_with fail
    have hds : (es.take n) = es := by rw [HNN.out, List.take_length]
    have hda := (HGI.out _ f2).a
    have hdb := (HGI.out _ f2).b
    have hwd : waitD es n = [] := by rw [HNN.out, waitD_all]
    rw [hds, hwd] at hda hdb
    have hcc := keptEntry_yes KA WA KB WB cA dA cB dB (n + 1) (diskL z es) (diskL z es) et 4 ((n : Int) + 1) 1 ea eb 0 0 v2 hda hdb (by omega) (by rw [show ((n + 1 : Nat) : Int) = (n : Int) + 1 by omega]; exact HEB.out) (by rw [show ((n + 1 : Nat) : Int) = (n : Int) + 1 by omega]; exact ⟨by simp, HNM.out⟩)
    rw [show ((n + 1 : Nat) : Int) = (n : Int) + 1 by omega, show 2 + (n + 1) = 3 + n by omega] at hcc
    clear hda hdb
    refine hcc.mono ?_
    clear hcc
    rintro e v3 ⟨K1, c1, W1, d1, K2, c2, W2, d2, rfl, hO, b3⟩
    have f3 := bthen f2 b3
    have z3 := b3.size
    have HN_3 := Lib.hid (HN_2.out.below b3)
    have HQ_3 := Lib.hid (HQ_2.out.below b3)
    have HR_3 := Lib.hid (HR_2.out.below b3)
    have HE_3 := Lib.hid (HE_2.out.below b3)
    clear lt_N r_N0 r_N1 r_N2 r_N3 r_N4 r_N5 r_N6 r_N7 r_N8 r_N9 r_N10 r_N11 r_N12 r_N13 r_N14 r_N15 r_N16 r_N17 r_N18 lt_E r_E0 r_E1 r_E2 r_E3 r_E4 r_E5 r_E6 r_E7 r_E8
    clear HN_2 HQ_2 HR_2 HE_2
    have HT_3 := Lib.hid (show On (Rg v2.heap.size v3.heap.size) (fun x => Dk x K1 22 W1 1 (diskL z es) [(((3 + n : Nat) : Int), withL [(n : Int) + 1, et, 4, (n : Int) + 1, 1, ea, eb, 0, 0, (n : Int) + 1, (n : Int) + 1])] ∧ Dk x K2 22 W2 1 (diskL z es) [(((3 + n : Nat) : Int), withL [(n : Int) + 1, et, 4, (n : Int) + 1, 1, ea, eb, 0, 0, (n : Int) + 1, (n : Int) + 1])]) v3 from hO)
    clear hO
    skip
    have lt_N := HN_3.out.lt
    obtain ⟨r_N0, r_N1, r_N2, r_N3, r_N4, r_N5, r_N6, r_N7, r_N8, r_N9, r_N10, r_N11, r_N12, r_N13, r_N14, r_N15, r_N16, r_N17, r_N18⟩ := bc19 HN_3.out
    obtain ⟨wN0, wN1, wN2, wN3⟩ := bf4 HN_3.out
    go_upto_region 8 with fail
    obtain ⟨v4, hv4⟩ : ∃ x : World, x = (((((v3.setCell ⟨gN, 0, none⟩ (.slice K1 22 c1)).setCell ⟨gN, 1, none⟩ (.slice W1 1 d1)).setCell ⟨gN, 2, none⟩ (.slice K2 22 c2)).setCell ⟨gN, 3, none⟩ (.slice W2 1 d2)).alloc (.cells #[.slice K1 22 c1, .slice W1 1 d1, .slice K2 22 c2, .slice W2 1 d2] 42)) := ⟨_, rfl⟩
    rw [← hv4]
    have f4 : Below w.heap.size w v4 := by rw [hv4]; (repeat' (first | (with_reducible exact Below.refl _ _) | (with_reducible assumption) | (with_reducible refine Below.alloc ?_ ?_ _) | (with_reducible refine Below.drew ?_) | (with_reducible refine Below.setCell ?_ ?_ _) | (with_reducible refine bstep (by assumption) ?_ ?_) | (with_reducible exact Nat.le_refl _) | omega | (simp [*]; done) | (simp [*]; omega)))
    have z4 : v3.heap.size + 1 ≤ v4.heap.size := by rw [hv4]; simp [size_set]
    have HN_4 : Hid (Blk v4 gN 51 #[.slice K1 22 c1, .slice W1 1 d1, .slice K2 22 c2, .slice W2 1 d2, .int .i64 0, .int .i64 0, .int .i64 0, .slice H 0 hc, .int .i64 0, .int .i64 0, .int .i64 0, .slice X 0 xc, .bool false, .int .i64 0, .int .i64 0, .slice L n lc, .slice S ns sc, .int .i64 (n : Nat), .slice O 0 oc]) := by rw [hv4]; exact Lib.hid ((((((HN_3.out).set_ 0 _).set_ 1 _).set_ 2 _).set_ 3 _).alloc _)
    have HQ_4 : Hid (Blk v4 gQ 56 #[.int .i64 4, .int .i64 ((n : Int) + 1), .int .i64 1, .int .i64 ea, .int .i64 eb, .int .i64 0, .int .i64 0]) := by rw [hv4]; exact Lib.hid ((((((HQ_3.out).far (p := ⟨gN, 0, none⟩) (show gQ ≠ gN by omega) _).far (p := ⟨gN, 1, none⟩) (show gQ ≠ gN by omega) _).far (p := ⟨gN, 2, none⟩) (show gQ ≠ gN by omega) _).far (p := ⟨gN, 3, none⟩) (show gQ ≠ gN by omega) _).alloc _)
    have HR_4 : Hid (Blk v4 gR 51 #[.slice none 0 0, .slice none 0 0, .slice none 0 0, .slice none 0 0, .int .i64 0, .int .i64 0, .int .i64 0, .slice none 0 0, .int .i64 0, .int .i64 0, .int .i64 0, .slice none 0 0, .bool false, .int .i64 0, .int .i64 0, .slice none 0 0, .slice none 0 0, .int .i64 0, .slice none 0 0]) := by rw [hv4]; exact Lib.hid ((((((HR_3.out).far (p := ⟨gN, 0, none⟩) (show gR ≠ gN by omega) _).far (p := ⟨gN, 1, none⟩) (show gR ≠ gN by omega) _).far (p := ⟨gN, 2, none⟩) (show gR ≠ gN by omega) _).far (p := ⟨gN, 3, none⟩) (show gR ≠ gN by omega) _).alloc _)
    have HE_4 : Hid (Blk v4 gE 76 #[.int .i64 ((n : Int) + 1), .int .i64 et, .int .i64 4, .int .i64 ((n : Int) + 1), .int .i64 1, .int .i64 ea, .int .i64 eb, .int .i64 0, .int .i64 0]) := by rw [hv4]; exact Lib.hid ((((((HE_3.out).far (p := ⟨gN, 0, none⟩) (show gE ≠ gN by omega) _).far (p := ⟨gN, 1, none⟩) (show gE ≠ gN by omega) _).far (p := ⟨gN, 2, none⟩) (show gE ≠ gN by omega) _).far (p := ⟨gN, 3, none⟩) (show gE ≠ gN by omega) _).alloc _)
    have HT_4 : Hid (On (Rg v2.heap.size v3.heap.size) (fun x => Dk x K1 22 W1 1 (diskL z es) [(((3 + n : Nat) : Int), withL [(n : Int) + 1, et, 4, (n : Int) + 1, 1, ea, eb, 0, 0, (n : Int) + 1, (n : Int) + 1])] ∧ Dk x K2 22 W2 1 (diskL z es) [(((3 + n : Nat) : Int), withL [(n : Int) + 1, et, 4, (n : Int) + 1, 1, ea, eb, 0, 0, (n : Int) + 1, (n : Int) + 1])]) v4) := by rw [hv4]; exact Lib.hid ((((((HT_3.out).far (g := gN) (Rg.no (by omega)) 0 _).far (g := gN) (Rg.no (by omega)) 1 _).far (g := gN) (Rg.no (by omega)) 2 _).far (g := gN) (Rg.no (by omega)) 3 _).alloc _)
    have H9_4 : Hid (Blk v4 v3.heap.size 42 #[.slice K1 22 c1, .slice W1 1 d1, .slice K2 22 c2, .slice W2 1 d2]) := by rw [hv4]; exact Lib.hid ((Blk.new_at _ _ _ _ (by simp [size_set])))
    clear lt_N r_N0 r_N1 r_N2 r_N3 r_N4 r_N5 r_N6 r_N7 r_N8 r_N9 r_N10 r_N11 r_N12 r_N13 r_N14 r_N15 r_N16 r_N17 r_N18
    clear hv4 HN_3 HQ_3 HR_3 HE_3 HT_3
    obtain ⟨g9, hg9⟩ : ∃ q, q = v3.heap.size := ⟨_, rfl⟩
    rw [← hg9] at H9_4
    try rw [← hg9]
    have lg9 : v3.heap.size ≤ g9 := by omega
    have mg9 : g9 < v4.heap.size := by omega
    have ng9 : ∀ k, v3.heap.size ≤ k → k ≠ g9 → True := fun _ _ _ => trivial
    clear ng9
    clear hg9
    clear wN0 wN1 wN2 wN3
    have lt_N := HN_4.out.lt
    obtain ⟨r_N0, r_N1, r_N2, r_N3, r_N4, r_N5, r_N6, r_N7, r_N8, r_N9, r_N10, r_N11, r_N12, r_N13, r_N14, r_N15, r_N16, r_N17, r_N18⟩ := bc19 HN_4.out
    have lt_E := HE_4.out.lt
    obtain ⟨r_E0, r_E1, r_E2, r_E3, r_E4, r_E5, r_E6, r_E7, r_E8⟩ := bc9 HE_4.out
    have hOl : Row v4 lo 76 9 L n lc (EN es) := ((Row.on HOW.out.l).inB f4 (fun _ hk => hk.2)).out
    have hOo : Row v4 lo 71 4 O 0 oc (oweL es n) := ((Row.on HOW.out.o).inB f4 (fun _ hk => hk.2)).out
    have hLlt : ∀ a, L = some a → a.block < w.heap.size := Row.lt HOW.out.l
    have hOlt : ∀ a, O = some a → a.block < w.heap.size := Row.lt HOW.out.o
    have hS4 := (HGI.out _ f4).s
    have hZ4 : w.heap.size ≤ v4.heap.size := f4.size
    go_wp2_with (at_builtin; refine wpList_append_row2 rfl _ _ 46 rfl 76 (.agg #[.int .i64 0, .int .i64 0, .int .i64 0, .int .i64 0, .int .i64 0, .int .i64 0, .int .i64 0, .int .i64 0, .int .i64 0]) 9 72 Tryz.underlying46 info_EntryL (by first | kernel_rfl | simp [Value.cells]) (by decide) lo L n lc (EN es) rfl (hOl.alloc _) ⟨v4.heap.size, 0, none⟩ 1 1 [(n : Int) + 1, et, 4, (n : Int) + 1, 1, ea, eb, 0, 0] rfl rfl (cell_nine_at rfl) (by unfold maxLen; omega) (by omega) (by simp; omega) ?_; intro L5 lc5 w5 R5 B5 W5 loc5; have KN5 := (HN_4.out.alloc (.cells #[.int .i64 ((n : Int) + 1), .int .i64 et, .int .i64 4, .int .i64 ((n : Int) + 1), .int .i64 1, .int .i64 ea, .int .i64 eb, .int .i64 0, .int .i64 0] 76)).wroteA W5 (fun a ha => by have := hLlt a ha; show a.block ≠ gN; omega); have n15 := KN5.cell 15; have m15 := KN5.frozen 15; have n16 := KN5.cell 16; have ltN5 := KN5.lt; have KE5 := (HE_4.out.alloc (.cells #[.int .i64 ((n : Int) + 1), .int .i64 et, .int .i64 4, .int .i64 ((n : Int) + 1), .int .i64 1, .int .i64 ea, .int .i64 eb, .int .i64 0, .int .i64 0] 76)).wroteA W5 (fun a ha => by have := hLlt a ha; show a.block ≠ gE; omega); have y0 := KE5.cell 0; have y1 := KE5.cell 1; have y2 := KE5.cell 2; have y3 := KE5.cell 3; have y4 := KE5.cell 4; have y5 := KE5.cell 5; have y6 := KE5.cell 6; have y7 := KE5.cell 7; have y8 := KE5.cell 8; have ltE5 := KE5.lt)
    clear lt_N r_N0 r_N1 r_N2 r_N3 r_N4 r_N5 r_N6 r_N7 r_N8 r_N9 r_N10 r_N11 r_N12 r_N13 r_N14 r_N15 r_N16 r_N17 r_N18 lt_E r_E0 r_E1 r_E2 r_E3 r_E4 r_E5 r_E6 r_E7 r_E8
    refine calls_named ?_
    rintro v5 hv5
    have hl5 : ∀ a, L5 = some a → a.block < w.heap.size ∨ a.block = v4.heap.size + 1 := fun a ha => by
      rcases loc5 a ha with ⟨b, hb, e⟩ | e
      · left; rw [← e]; exact hLlt b hb
      · right; rw [e]; simp
    have hl5o : ∀ a b, L5 = some a → O = some b → a.block ≠ b.block := fun a b ha hb => by
      rcases loc5 a ha with ⟨c, hc, e⟩ | e
      · rw [← e]; exact HOW.out.lo c b hc hb
      · have := hOlt b hb; rw [e]; simp; omega
    have HN_5 : Hid (Blk v5 gN 51 #[.slice K1 22 c1, .slice W1 1 d1, .slice K2 22 c2, .slice W2 1 d2, .int .i64 0, .int .i64 0, .int .i64 0, .slice H 0 hc, .int .i64 0, .int .i64 0, .int .i64 0, .slice X 0 xc, .bool false, .int .i64 0, .int .i64 0, .slice L5 (n + 1) lc5, .slice S ns sc, .int .i64 (n : Nat), .slice O 0 oc]) := by rw [hv5]; exact Lib.hid (KN5.set_ 15 _)
    have HE_5 : Hid (Blk v5 gE 76 #[.int .i64 ((n : Int) + 1), .int .i64 et, .int .i64 4, .int .i64 ((n : Int) + 1), .int .i64 1, .int .i64 ea, .int .i64 eb, .int .i64 0, .int .i64 0]) := by rw [hv5]; exact Lib.hid (KE5.far (p := ⟨gN, 15, none⟩) (show gE ≠ gN by omega) (.slice L5 (n + 1) lc5))
    have HR_5 : Hid (Blk v5 gR 51 #[.slice none 0 0, .slice none 0 0, .slice none 0 0, .slice none 0 0, .int .i64 0, .int .i64 0, .int .i64 0, .slice none 0 0, .int .i64 0, .int .i64 0, .int .i64 0, .slice none 0 0, .bool false, .int .i64 0, .int .i64 0, .slice none 0 0, .slice none 0 0, .int .i64 0, .slice none 0 0]) := by rw [hv5]; exact Lib.hid (((HR_4.out.alloc (.cells #[.int .i64 ((n : Int) + 1), .int .i64 et, .int .i64 4, .int .i64 ((n : Int) + 1), .int .i64 1, .int .i64 ea, .int .i64 eb, .int .i64 0, .int .i64 0] 76)).wroteA W5 (fun a ha => by have := hLlt a ha; show a.block ≠ gR; omega)).far (p := ⟨gN, 15, none⟩) (show gR ≠ gN by omega) (.slice L5 (n + 1) lc5))
    have HT_5 : Hid (On (Rg v2.heap.size v3.heap.size) (fun x => Dk x K1 22 W1 1 (diskL z es) [(((3 + n : Nat) : Int), withL [(n : Int) + 1, et, 4, (n : Int) + 1, 1, ea, eb, 0, 0, (n : Int) + 1, (n : Int) + 1])] ∧ Dk x K2 22 W2 1 (diskL z es) [(((3 + n : Nat) : Int), withL [(n : Int) + 1, et, 4, (n : Int) + 1, 1, ea, eb, 0, 0, (n : Int) + 1, (n : Int) + 1])]) v5) := by rw [hv5]; exact Lib.hid (((HT_4.out.alloc (.cells #[.int .i64 ((n : Int) + 1), .int .i64 et, .int .i64 4, .int .i64 ((n : Int) + 1), .int .i64 1, .int .i64 ea, .int .i64 eb, .int .i64 0, .int .i64 0] 76)).wrote W5 (fun a ha => Rg.no (by have := hLlt a ha; omega))).far (g := gN) (Rg.no (by omega)) 15 (.slice L5 (n + 1) lc5))
    have HL_5 : Hid (Row v5 lo 76 9 L5 (n + 1) lc5 (EN es ++ [(n : Int) + 1, et, 4, (n : Int) + 1, 1, ea, eb, 0, 0])) := by rw [hv5]; exact Lib.hid (R5.far (p := ⟨gN, 15, none⟩) (fun a ha => by rcases hl5 a ha with h | h <;> (show a.block ≠ gN; omega)) (.slice L5 (n + 1) lc5))
    have HS_5 : Hid (Sl v5 3 S ns (markL es)) := by rw [hv5]; exact Lib.hid (((hS4.alloc (.cells #[.int .i64 ((n : Int) + 1), .int .i64 et, .int .i64 4, .int .i64 ((n : Int) + 1), .int .i64 1, .int .i64 ea, .int .i64 eb, .int .i64 0, .int .i64 0] 76)).wrote W5 (fun _ a b ha hb => (HOW.out.ls b a hb ha).symm)).far (p := ⟨gN, 15, none⟩) (fun h0 a ha => by have := (HGI.out w (Below.refl _ _)).s.lt h0 a ha; show a.block ≠ gN; omega) (.slice L5 (n + 1) lc5))
    have HO_5 : Hid (Row v5 lo 71 4 O 0 oc (oweL es n)) := by rw [hv5]; exact Lib.hid (((Row.alloc hOo (.cells #[.int .i64 ((n : Int) + 1), .int .i64 et, .int .i64 4, .int .i64 ((n : Int) + 1), .int .i64 1, .int .i64 ea, .int .i64 eb, .int .i64 0, .int .i64 0] 76)).wrote W5 (fun a b ha hb => (HOW.out.lo b a hb ha).symm)).far (p := ⟨gN, 15, none⟩) (fun a ha => by have := hOlt a ha; show a.block ≠ gN; omega) (.slice L5 (n + 1) lc5))
    have f5 : Below lo w v5 := by rw [hv5]; exact (((f4.mono hlo).alloc (by omega) (.cells #[.int .i64 ((n : Int) + 1), .int .i64 et, .int .i64 4, .int .i64 ((n : Int) + 1), .int .i64 1, .int .i64 ea, .int .i64 eb, .int .i64 0, .int .i64 0] 76)).trans B5).setCell (p := ⟨gN, 15, none⟩) (show lo ≤ gN by omega) _
    have z5 : v4.heap.size + 1 ≤ v5.heap.size := by rw [hv5]; have := W5.size; simp only [size_set]; simpa using this
    clear hv5 KN5 n15 m15 n16 ltN5 KE5 y0 y1 y2 y3 y4 y5 y6 y7 y8 ltE5 hOl hOo hS4 R5 B5 W5 loc5 HN_4 HE_4 HR_4 HT_4 HQ_4 H9_4 HOW HGI HIG
    have hcc := marked_yes S sc es ((n : Int) + 1) et 4 ((n : Int) + 1) 1 ea eb 0 0 v5 (by rw [← HNS.out]; exact HS_5.out) HPP.out
    rw [← HNS.out, show markN (es ++ [⟨(n : Int) + 1, et, 4, (n : Int) + 1, 1, ea, eb, 0, 0⟩]) = 1 by unfold markN; simp] at hcc
    refine hcc.mono ?_
    clear hcc
    rintro e v6 ⟨S6, sc6, rfl, R6, b6⟩
    clear HS_5
    have z6 := b6.size
    have x16 := (HN_5.out.below b6).cell 16
    have w16 := (HN_5.out.below b6).frozen 16
    have ltN := (HN_5.out.below b6).lt
    go_upto_region 10 with fail
    obtain ⟨v7, hv7⟩ : ∃ x : World, x = v6.setCell ⟨gN, 16, none⟩ (.slice S6 1 sc6) := ⟨_, rfl⟩
    rw [← hv7]
    have HN_7 : Hid (Blk v7 gN 51 #[.slice K1 22 c1, .slice W1 1 d1, .slice K2 22 c2, .slice W2 1 d2, .int .i64 0, .int .i64 0, .int .i64 0, .slice H 0 hc, .int .i64 0, .int .i64 0, .int .i64 0, .slice X 0 xc, .bool false, .int .i64 0, .int .i64 0, .slice L5 (n + 1) lc5, .slice S6 1 sc6, .int .i64 (n : Nat), .slice O 0 oc]) := by rw [hv7]; exact Lib.hid ((HN_5.out.below b6).set_ 16 _)
    have HE_7 : Hid (Blk v7 gE 76 #[.int .i64 ((n : Int) + 1), .int .i64 et, .int .i64 4, .int .i64 ((n : Int) + 1), .int .i64 1, .int .i64 ea, .int .i64 eb, .int .i64 0, .int .i64 0]) := by rw [hv7]; exact Lib.hid ((HE_5.out.below b6).far (p := ⟨gN, 16, none⟩) (show gE ≠ gN by omega) _)
    have HR_7 : Hid (Blk v7 gR 51 #[.slice none 0 0, .slice none 0 0, .slice none 0 0, .slice none 0 0, .int .i64 0, .int .i64 0, .int .i64 0, .slice none 0 0, .int .i64 0, .int .i64 0, .int .i64 0, .slice none 0 0, .bool false, .int .i64 0, .int .i64 0, .slice none 0 0, .slice none 0 0, .int .i64 0, .slice none 0 0]) := by rw [hv7]; exact Lib.hid ((HR_5.out.below b6).far (p := ⟨gN, 16, none⟩) (show gR ≠ gN by omega) _)
    have HT_7 : Hid (On (Rg v2.heap.size v3.heap.size) (fun x => Dk x K1 22 W1 1 (diskL z es) [(((3 + n : Nat) : Int), withL [(n : Int) + 1, et, 4, (n : Int) + 1, 1, ea, eb, 0, 0, (n : Int) + 1, (n : Int) + 1])] ∧ Dk x K2 22 W2 1 (diskL z es) [(((3 + n : Nat) : Int), withL [(n : Int) + 1, et, 4, (n : Int) + 1, 1, ea, eb, 0, 0, (n : Int) + 1, (n : Int) + 1])]) v7) := by rw [hv7]; exact Lib.hid ((HT_5.out.below b6).far (g := gN) (Rg.no (by omega)) 16 _)
    have HL_7 : Hid (Row v7 lo 76 9 L5 (n + 1) lc5 (EN es ++ [(n : Int) + 1, et, 4, (n : Int) + 1, 1, ea, eb, 0, 0])) := by rw [hv7]; exact Lib.hid ((HL_5.out.below b6).far (p := ⟨gN, 16, none⟩) (fun a ha => by rcases hl5 a ha with h | h <;> (show a.block ≠ gN; omega)) _)
    have HS_7 : Hid (Row v7 v5.heap.size 97 3 S6 1 sc6 (markL (es ++ [⟨(n : Int) + 1, et, 4, (n : Int) + 1, 1, ea, eb, 0, 0⟩]))) := by rw [hv7]; exact Lib.hid (R6.far (p := ⟨gN, 16, none⟩) (fun a ha => by have := R6.ge a ha; show a.block ≠ gN; omega) _)
    have HO_7 : Hid (Row v7 lo 71 4 O 0 oc (oweL es n)) := by rw [hv7]; exact Lib.hid ((HO_5.out.below b6).far (p := ⟨gN, 16, none⟩) (fun a ha => by have := hOlt a ha; show a.block ≠ gN; omega) _)
    have f7 : Below lo w v7 := by rw [hv7]; exact (f5.trans (b6.mono (by omega))).setCell (p := ⟨gN, 16, none⟩) (show lo ≤ gN by omega) _
    have z7 : v6.heap.size ≤ v7.heap.size := by rw [hv7]; simp only [size_set]; exact Nat.le_refl _
    clear hv7 x16 w16 ltN HN_5 HE_5 HR_5 HT_5 HL_5 HO_5 R6
    obtain ⟨iA, hiA, hzA, hsA, hyA⟩ := info_parts info_AckV
    go_cut [] from 71 (fun wx => ∃ g8 oc8, Blk wx gN 51 #[.slice K1 22 c1, .slice W1 1 d1, .slice K2 22 c2, .slice W2 1 d2, .int .i64 0, .int .i64 0, .int .i64 0, .slice H 0 hc, .int .i64 0, .int .i64 0, .int .i64 0, .slice X 0 xc, .bool false, .int .i64 0, .int .i64 0, .slice L5 (n + 1) lc5, .slice S6 1 sc6, .int .i64 (n : Nat), .slice (some ⟨g8, 0, none⟩) 1 oc8] ∧ Blk wx gR 51 #[.slice none 0 0, .slice none 0 0, .slice none 0 0, .slice none 0 0, .int .i64 0, .int .i64 0, .int .i64 0, .slice none 0 0, .int .i64 0, .int .i64 0, .int .i64 0, .slice none 0 0, .bool false, .int .i64 0, .int .i64 0, .slice none 0 0, .slice none 0 0, .int .i64 0, .slice none 0 0] ∧ On (Rg v2.heap.size v3.heap.size) (fun x => Dk x K1 22 W1 1 (diskL z es) [(((3 + n : Nat) : Int), withL [(n : Int) + 1, et, 4, (n : Int) + 1, 1, ea, eb, 0, 0, (n : Int) + 1, (n : Int) + 1])] ∧ Dk x K2 22 W2 1 (diskL z es) [(((3 + n : Nat) : Int), withL [(n : Int) + 1, et, 4, (n : Int) + 1, 1, ea, eb, 0, 0, (n : Int) + 1, (n : Int) + 1])]) wx ∧ Row wx lo 76 9 L5 (n + 1) lc5 (EN es ++ [(n : Int) + 1, et, 4, (n : Int) + 1, 1, ea, eb, 0, 0]) ∧ Row wx v5.heap.size 97 3 S6 1 sc6 (markL (es ++ [⟨(n : Int) + 1, et, 4, (n : Int) + 1, 1, ea, eb, 0, 0⟩])) ∧ Row wx lo 71 4 (some ⟨g8, 0, none⟩) 1 oc8 [4, (n : Int) + 1, (n : Int) + 1, (n : Int) + 1] ∧ Below lo w wx ∧ v7.heap.size ≤ wx.heap.size)
    case first =>
      refine wp_region_any (by kernel_rfl) ?_
      change wpAny _ _ _ _ _ _ _ (World.drew _)
      obtain ⟨u0, hu0⟩ : ∃ x : World, x = v7.drew := ⟨_, rfl⟩
      rw [← hu0]
      have E0 : Below v7.heap.size v7 u0 := by rw [hu0]; exact Below.drew (Below.refl _ _)
      clear hu0
      have hO0 : oweL es n = [] := by rw [HNN.out]; exact oweL_all es
      have zlo : lo ≤ v7.heap.size := by omega
      refine wpAny_take (i := 0) (oi := _) (v := ?_) rfl (by kernel_rfl) (by kernel_rfl) (by kernel_rfl) (fun _ _ _ h => h) (Or.inl ⟨by rfl, ?_⟩) ?_
      rotate_left 1
      · intro w; (go_simp <;> with_reducible rfl)
      change wpAny _ _ _ _ _ _ (Act.put _ (some 71) _) _
      simp only [Act.put, List.setIfInBounds_toArray, List.set_cons_zero, List.set_cons_succ]
      refine wpAny_ready (rs := [1, 2]) (by kernel_rfl) (by simp) ?_
      refine AllReady.cons rfl (fun K hK => ?_) ?_
      · skip
        have x18 := (HN_7.out.below E0).cell 18
        have ltN := (HN_7.out.below E0).lt
        go_simp
        clear x18 ltN
        refine hK _ _ ?_
        clear hK K
        try change wpAny _ _ _ _ _ _ (Act.put _ (some 72) _) _
        try simp only [Act.put, List.setIfInBounds_toArray, List.set_cons_zero, List.set_cons_succ]
        refine wpAny_ready (rs := [2]) (by kernel_rfl) (by simp) ?_
        refine AllReady.cons rfl (fun K hK => ?_) ?_
        · skip
          have y0 := (HE_7.out.below E0).cell 0
          have y1 := (HE_7.out.below E0).cell 1
          have y2 := (HE_7.out.below E0).cell 2
          have y3 := (HE_7.out.below E0).cell 3
          have y4 := (HE_7.out.below E0).cell 4
          have y5 := (HE_7.out.below E0).cell 5
          have y6 := (HE_7.out.below E0).cell 6
          have y7 := (HE_7.out.below E0).cell 7
          have y8 := (HE_7.out.below E0).cell 8
          have ltE := (HE_7.out.below E0).lt
          go_simp
          clear y0 y1 y2 y3 y4 y5 y6 y7 y8 ltE
          refine hK _ _ ?_
          clear hK K
          try change wpAny _ _ _ _ _ _ (Act.put _ (some 73) _) _
          try simp only [Act.put, List.setIfInBounds_toArray, List.set_cons_zero, List.set_cons_succ]
          refine wpAny_ready (rs := [3]) (by kernel_rfl) (by simp) ?_
          refine AllReady.cons rfl (fun K hK => ?_) ?_
          · skip
            go_simp
            go_at_call 74
            refine (ackOf_yes ((n : Int) + 1) et 4 ((n : Int) + 1) 1 ea eb 0 0 _ HEB.out).mono ?_
            rintro e u1 ⟨rfl, e1⟩
            have E1 : Below v7.heap.size v7 u1 := bthen E0 e1
            have zu1 := E1.size
            refine hK _ _ ?_
            clear hK K
            try change wpAny _ _ _ _ _ _ (Act.put _ (some 74) _) _
            try simp only [Act.put, List.setIfInBounds_toArray, List.set_cons_zero, List.set_cons_succ]
            refine wpAny_ready (rs := [4]) (by kernel_rfl) (by simp) ?_
            refine AllReady.cons rfl (fun K hK => ?_) ?_
            · skip
              go_simp
              obtain ⟨u2, hu⟩ : ∃ x : World, x = u1.alloc (.cells #[.int .i64 4, .int .i64 ((n : Int) + 1), .int .i64 ((n : Int) + 1), .int .i64 ((n : Int) + 1)] 71) := ⟨_, rfl⟩
              rw [← hu]
              have E2 : Below v7.heap.size v7 u2 := by rw [hu]; exact E1.alloc E1.size _
              have zu2 : u1.heap.size + 1 ≤ u2.heap.size := by rw [hu]; simp
              have hck := (fun j u hj => by rw [hu]; exact cell_four_ack rfl j u hj : ∀ j u, (ints [4, (n : Int) + 1, (n : Int) + 1, (n : Int) + 1])[j]? = some u → u2.cell? ((⟨u1.heap.size, 0, none⟩ : Addr).add j) = some u)
              clear hu
              refine hK _ _ ?_
              clear hK K
              try change wpAny _ _ _ _ _ _ (Act.put _ (some 75) _) _
              try simp only [Act.put, List.setIfInBounds_toArray, List.set_cons_zero, List.set_cons_succ]
              refine wpAny_ready (rs := [5]) (by kernel_rfl) (by simp) ?_
              refine AllReady.cons rfl (fun K hK => ?_) ?_
              · skip
                rw [if_pos (by rfl)]
                refine wp_append_own _ (.tmp 72) (.tmp 75) 49 rfl lo 71 iA _ 4 32 Tryz.underlying49 hiA hzA hsA hyA (by first | kernel_rfl | simp [Value.cells]) (by decide) (.slice O 0 oc) 0 [] rfl (by have h0 := HO_7.out.below E2; rw [hO0] at h0; exact h0) ⟨u1.heap.size, 0, none⟩ 1 1 (ints [4, (n : Int) + 1, (n : Int) + 1, (n : Int) + 1]) rfl rfl hck (ints_oneCell' _) (by unfold maxLen; omega) (by omega) (by omega) ?_
                intro v' u3 hown hgrow _
                obtain ⟨g8, oc8, rfl⟩ := ownsRow_succ hown
                have W3 : Wrote u2 u3 O := by cases O <;> exact hgrow
                have zu3 := W3.size
                have KN3 := (HN_7.out.below E2).wroteA W3 (fun a ha => by have := hOlt a ha; show a.block ≠ gN; omega)
                have x18 := KN3.cell 18
                have w18 := KN3.frozen 18
                have ltN := KN3.lt
                clear hck
                refine hK _ _ ?_
                clear hK K
                try change wpAny _ _ _ _ _ _ (Act.put _ (some 76) _) _
                try simp only [Act.put, List.setIfInBounds_toArray, List.set_cons_zero, List.set_cons_succ]
                refine wpAny_take (i := 6) (oi := _) (v := ?_) rfl (by kernel_rfl) (by kernel_rfl) (by kernel_rfl) (fun _ _ _ h => h) (Or.inl ⟨by rfl, ?_⟩) ?_
                rotate_left 1
                · intro w; (go_simp <;> with_reducible rfl)
                change wpAny _ _ _ _ _ _ (Act.put _ (some 77) _) _
                simp only [Act.put, List.setIfInBounds_toArray, List.set_cons_zero, List.set_cons_succ]
                refine wpAny_ready (rs := [7]) (by kernel_rfl) (by simp) ?_
                refine AllReady.cons rfl (fun K hK => ?_) ?_
                · skip
                  go_simp
                  refine hK _ _ ?_
                  clear hK K
                  try change wpAny _ _ _ _ _ _ (Act.put _ none _) _
                  try simp only [Act.put, List.setIfInBounds_toArray, List.set_cons_zero, List.set_cons_succ]
                  refine wpAny_done (by kernel_rfl) ?_ _
                  go_wp2_with fail
                  go_meet
                  have hg8 := Row.far (w := u3) (lo := lo) (e := 71) (s := 4) (A := some ⟨g8, 0, none⟩) (n := 0 + 1) (cap := oc8) (zs := [4, (n : Int) + 1, (n : Int) + 1, (n : Int) + 1]) hown (p := ⟨gN, 18, none⟩) (fun a ha e => by
                    have h1 : u3.heap[g8]? = _ := rfl
                    cases ha
                    have h2 : g8 = gN := e
                    exact (row_not_blk hown (by rw [h2]; exact KN3) (by decide)).elim) (.slice (some ⟨g8, 0, none⟩) (0 + 1) oc8)
                  exact ⟨g8, oc8, KN3.set_ 18 _, ((HR_7.out.below E2).wroteA W3 (fun a ha => by have := hOlt a ha; show a.block ≠ gR; omega)).far (p := ⟨gN, 18, none⟩) (show gR ≠ gN by omega) _,
                    ((HT_7.out.below E2).wrote W3 (fun a ha => Rg.no (by have := hOlt a ha; omega))).far (g := gN) (Rg.no (by omega)) 18 _,
                    ((HL_7.out.below E2).wrote W3 (fun a b ha hb => hl5o a b ha hb)).far (p := ⟨gN, 18, none⟩) (fun a ha => by rcases hl5 a ha with h | h <;> (show a.block ≠ gN; omega)) _,
                    ((HS_7.out.below E2).wrote W3 (fun a b ha hb => by have h1 := HS_7.out.ge a ha; have h2 := hOlt b hb; omega)).far (p := ⟨gN, 18, none⟩) (fun a ha => by have := HS_7.out.ge a ha; show a.block ≠ gN; omega) _,
                    hg8, ((f7.trans (E2.mono zlo)).grown hgrow (by omega) (fun k e => by
                      cases O with
                      | none => cases e
                      | some a => cases e; exact HO_7.out.ge a rfl)).setCell (p := ⟨gN, 18, none⟩) (show lo ≤ gN by omega) _, by simp only [size_set]; omega⟩
                exact AllReady.nil
              exact AllReady.nil
            exact AllReady.nil
          exact AllReady.nil
        exact AllReady.nil
      refine AllReady.cons rfl (fun K hK => ?_) ?_
      · skip
        have y0 := (HE_7.out.below E0).cell 0
        have y1 := (HE_7.out.below E0).cell 1
        have y2 := (HE_7.out.below E0).cell 2
        have y3 := (HE_7.out.below E0).cell 3
        have y4 := (HE_7.out.below E0).cell 4
        have y5 := (HE_7.out.below E0).cell 5
        have y6 := (HE_7.out.below E0).cell 6
        have y7 := (HE_7.out.below E0).cell 7
        have y8 := (HE_7.out.below E0).cell 8
        have ltE := (HE_7.out.below E0).lt
        go_simp
        clear y0 y1 y2 y3 y4 y5 y6 y7 y8 ltE
        refine hK _ _ ?_
        clear hK K
        try change wpAny _ _ _ _ _ _ (Act.put _ (some 73) _) _
        try simp only [Act.put, List.setIfInBounds_toArray, List.set_cons_zero, List.set_cons_succ]
        refine wpAny_ready (rs := [1, 3]) (by kernel_rfl) (by simp) ?_
        refine AllReady.cons rfl (fun K hK => ?_) ?_
        · skip
          have x18 := (HN_7.out.below E0).cell 18
          have ltN := (HN_7.out.below E0).lt
          go_simp
          clear x18 ltN
          refine hK _ _ ?_
          clear hK K
          try change wpAny _ _ _ _ _ _ (Act.put _ (some 72) _) _
          try simp only [Act.put, List.setIfInBounds_toArray, List.set_cons_zero, List.set_cons_succ]
          refine wpAny_ready (rs := [3]) (by kernel_rfl) (by simp) ?_
          refine AllReady.cons rfl (fun K hK => ?_) ?_
          · skip
            go_simp
            go_at_call 74
            refine (ackOf_yes ((n : Int) + 1) et 4 ((n : Int) + 1) 1 ea eb 0 0 _ HEB.out).mono ?_
            rintro e u1 ⟨rfl, e1⟩
            have E1 : Below v7.heap.size v7 u1 := bthen E0 e1
            have zu1 := E1.size
            refine hK _ _ ?_
            clear hK K
            try change wpAny _ _ _ _ _ _ (Act.put _ (some 74) _) _
            try simp only [Act.put, List.setIfInBounds_toArray, List.set_cons_zero, List.set_cons_succ]
            refine wpAny_ready (rs := [4]) (by kernel_rfl) (by simp) ?_
            refine AllReady.cons rfl (fun K hK => ?_) ?_
            · skip
              go_simp
              obtain ⟨u2, hu⟩ : ∃ x : World, x = u1.alloc (.cells #[.int .i64 4, .int .i64 ((n : Int) + 1), .int .i64 ((n : Int) + 1), .int .i64 ((n : Int) + 1)] 71) := ⟨_, rfl⟩
              rw [← hu]
              have E2 : Below v7.heap.size v7 u2 := by rw [hu]; exact E1.alloc E1.size _
              have zu2 : u1.heap.size + 1 ≤ u2.heap.size := by rw [hu]; simp
              have hck := (fun j u hj => by rw [hu]; exact cell_four_ack rfl j u hj : ∀ j u, (ints [4, (n : Int) + 1, (n : Int) + 1, (n : Int) + 1])[j]? = some u → u2.cell? ((⟨u1.heap.size, 0, none⟩ : Addr).add j) = some u)
              clear hu
              refine hK _ _ ?_
              clear hK K
              try change wpAny _ _ _ _ _ _ (Act.put _ (some 75) _) _
              try simp only [Act.put, List.setIfInBounds_toArray, List.set_cons_zero, List.set_cons_succ]
              refine wpAny_ready (rs := [5]) (by kernel_rfl) (by simp) ?_
              refine AllReady.cons rfl (fun K hK => ?_) ?_
              · skip
                rw [if_pos (by rfl)]
                refine wp_append_own _ (.tmp 72) (.tmp 75) 49 rfl lo 71 iA _ 4 32 Tryz.underlying49 hiA hzA hsA hyA (by first | kernel_rfl | simp [Value.cells]) (by decide) (.slice O 0 oc) 0 [] rfl (by have h0 := HO_7.out.below E2; rw [hO0] at h0; exact h0) ⟨u1.heap.size, 0, none⟩ 1 1 (ints [4, (n : Int) + 1, (n : Int) + 1, (n : Int) + 1]) rfl rfl hck (ints_oneCell' _) (by unfold maxLen; omega) (by omega) (by omega) ?_
                intro v' u3 hown hgrow _
                obtain ⟨g8, oc8, rfl⟩ := ownsRow_succ hown
                have W3 : Wrote u2 u3 O := by cases O <;> exact hgrow
                have zu3 := W3.size
                have KN3 := (HN_7.out.below E2).wroteA W3 (fun a ha => by have := hOlt a ha; show a.block ≠ gN; omega)
                have x18 := KN3.cell 18
                have w18 := KN3.frozen 18
                have ltN := KN3.lt
                clear hck
                refine hK _ _ ?_
                clear hK K
                try change wpAny _ _ _ _ _ _ (Act.put _ (some 76) _) _
                try simp only [Act.put, List.setIfInBounds_toArray, List.set_cons_zero, List.set_cons_succ]
                refine wpAny_take (i := 6) (oi := _) (v := ?_) rfl (by kernel_rfl) (by kernel_rfl) (by kernel_rfl) (fun _ _ _ h => h) (Or.inl ⟨by rfl, ?_⟩) ?_
                rotate_left 1
                · intro w; (go_simp <;> with_reducible rfl)
                change wpAny _ _ _ _ _ _ (Act.put _ (some 77) _) _
                simp only [Act.put, List.setIfInBounds_toArray, List.set_cons_zero, List.set_cons_succ]
                refine wpAny_ready (rs := [7]) (by kernel_rfl) (by simp) ?_
                refine AllReady.cons rfl (fun K hK => ?_) ?_
                · skip
                  go_simp
                  refine hK _ _ ?_
                  clear hK K
                  try change wpAny _ _ _ _ _ _ (Act.put _ none _) _
                  try simp only [Act.put, List.setIfInBounds_toArray, List.set_cons_zero, List.set_cons_succ]
                  refine wpAny_done (by kernel_rfl) ?_ _
                  go_wp2_with fail
                  go_meet
                  have hg8 := Row.far (w := u3) (lo := lo) (e := 71) (s := 4) (A := some ⟨g8, 0, none⟩) (n := 0 + 1) (cap := oc8) (zs := [4, (n : Int) + 1, (n : Int) + 1, (n : Int) + 1]) hown (p := ⟨gN, 18, none⟩) (fun a ha e => by
                    have h1 : u3.heap[g8]? = _ := rfl
                    cases ha
                    have h2 : g8 = gN := e
                    exact (row_not_blk hown (by rw [h2]; exact KN3) (by decide)).elim) (.slice (some ⟨g8, 0, none⟩) (0 + 1) oc8)
                  exact ⟨g8, oc8, KN3.set_ 18 _, ((HR_7.out.below E2).wroteA W3 (fun a ha => by have := hOlt a ha; show a.block ≠ gR; omega)).far (p := ⟨gN, 18, none⟩) (show gR ≠ gN by omega) _,
                    ((HT_7.out.below E2).wrote W3 (fun a ha => Rg.no (by have := hOlt a ha; omega))).far (g := gN) (Rg.no (by omega)) 18 _,
                    ((HL_7.out.below E2).wrote W3 (fun a b ha hb => hl5o a b ha hb)).far (p := ⟨gN, 18, none⟩) (fun a ha => by rcases hl5 a ha with h | h <;> (show a.block ≠ gN; omega)) _,
                    ((HS_7.out.below E2).wrote W3 (fun a b ha hb => by have h1 := HS_7.out.ge a ha; have h2 := hOlt b hb; omega)).far (p := ⟨gN, 18, none⟩) (fun a ha => by have := HS_7.out.ge a ha; show a.block ≠ gN; omega) _,
                    hg8, ((f7.trans (E2.mono zlo)).grown hgrow (by omega) (fun k e => by
                      cases O with
                      | none => cases e
                      | some a => cases e; exact HO_7.out.ge a rfl)).setCell (p := ⟨gN, 18, none⟩) (show lo ≤ gN by omega) _, by simp only [size_set]; omega⟩
                exact AllReady.nil
              exact AllReady.nil
            exact AllReady.nil
          exact AllReady.nil
        refine AllReady.cons rfl (fun K hK => ?_) ?_
        · skip
          go_simp
          go_at_call 74
          refine (ackOf_yes ((n : Int) + 1) et 4 ((n : Int) + 1) 1 ea eb 0 0 _ HEB.out).mono ?_
          rintro e u1 ⟨rfl, e1⟩
          have E1 : Below v7.heap.size v7 u1 := bthen E0 e1
          have zu1 := E1.size
          refine hK _ _ ?_
          clear hK K
          try change wpAny _ _ _ _ _ _ (Act.put _ (some 74) _) _
          try simp only [Act.put, List.setIfInBounds_toArray, List.set_cons_zero, List.set_cons_succ]
          refine wpAny_ready (rs := [1, 4]) (by kernel_rfl) (by simp) ?_
          refine AllReady.cons rfl (fun K hK => ?_) ?_
          · skip
            have x18 := (HN_7.out.below E1).cell 18
            have ltN := (HN_7.out.below E1).lt
            go_simp
            clear x18 ltN
            refine hK _ _ ?_
            clear hK K
            try change wpAny _ _ _ _ _ _ (Act.put _ (some 72) _) _
            try simp only [Act.put, List.setIfInBounds_toArray, List.set_cons_zero, List.set_cons_succ]
            refine wpAny_ready (rs := [4]) (by kernel_rfl) (by simp) ?_
            refine AllReady.cons rfl (fun K hK => ?_) ?_
            · skip
              go_simp
              obtain ⟨u2, hu⟩ : ∃ x : World, x = u1.alloc (.cells #[.int .i64 4, .int .i64 ((n : Int) + 1), .int .i64 ((n : Int) + 1), .int .i64 ((n : Int) + 1)] 71) := ⟨_, rfl⟩
              rw [← hu]
              have E2 : Below v7.heap.size v7 u2 := by rw [hu]; exact E1.alloc E1.size _
              have zu2 : u1.heap.size + 1 ≤ u2.heap.size := by rw [hu]; simp
              have hck := (fun j u hj => by rw [hu]; exact cell_four_ack rfl j u hj : ∀ j u, (ints [4, (n : Int) + 1, (n : Int) + 1, (n : Int) + 1])[j]? = some u → u2.cell? ((⟨u1.heap.size, 0, none⟩ : Addr).add j) = some u)
              clear hu
              refine hK _ _ ?_
              clear hK K
              try change wpAny _ _ _ _ _ _ (Act.put _ (some 75) _) _
              try simp only [Act.put, List.setIfInBounds_toArray, List.set_cons_zero, List.set_cons_succ]
              refine wpAny_ready (rs := [5]) (by kernel_rfl) (by simp) ?_
              refine AllReady.cons rfl (fun K hK => ?_) ?_
              · skip
                rw [if_pos (by rfl)]
                refine wp_append_own _ (.tmp 72) (.tmp 75) 49 rfl lo 71 iA _ 4 32 Tryz.underlying49 hiA hzA hsA hyA (by first | kernel_rfl | simp [Value.cells]) (by decide) (.slice O 0 oc) 0 [] rfl (by have h0 := HO_7.out.below E2; rw [hO0] at h0; exact h0) ⟨u1.heap.size, 0, none⟩ 1 1 (ints [4, (n : Int) + 1, (n : Int) + 1, (n : Int) + 1]) rfl rfl hck (ints_oneCell' _) (by unfold maxLen; omega) (by omega) (by omega) ?_
                intro v' u3 hown hgrow _
                obtain ⟨g8, oc8, rfl⟩ := ownsRow_succ hown
                have W3 : Wrote u2 u3 O := by cases O <;> exact hgrow
                have zu3 := W3.size
                have KN3 := (HN_7.out.below E2).wroteA W3 (fun a ha => by have := hOlt a ha; show a.block ≠ gN; omega)
                have x18 := KN3.cell 18
                have w18 := KN3.frozen 18
                have ltN := KN3.lt
                clear hck
                refine hK _ _ ?_
                clear hK K
                try change wpAny _ _ _ _ _ _ (Act.put _ (some 76) _) _
                try simp only [Act.put, List.setIfInBounds_toArray, List.set_cons_zero, List.set_cons_succ]
                refine wpAny_take (i := 6) (oi := _) (v := ?_) rfl (by kernel_rfl) (by kernel_rfl) (by kernel_rfl) (fun _ _ _ h => h) (Or.inl ⟨by rfl, ?_⟩) ?_
                rotate_left 1
                · intro w; (go_simp <;> with_reducible rfl)
                change wpAny _ _ _ _ _ _ (Act.put _ (some 77) _) _
                simp only [Act.put, List.setIfInBounds_toArray, List.set_cons_zero, List.set_cons_succ]
                refine wpAny_ready (rs := [7]) (by kernel_rfl) (by simp) ?_
                refine AllReady.cons rfl (fun K hK => ?_) ?_
                · skip
                  go_simp
                  refine hK _ _ ?_
                  clear hK K
                  try change wpAny _ _ _ _ _ _ (Act.put _ none _) _
                  try simp only [Act.put, List.setIfInBounds_toArray, List.set_cons_zero, List.set_cons_succ]
                  refine wpAny_done (by kernel_rfl) ?_ _
                  go_wp2_with fail
                  go_meet
                  have hg8 := Row.far (w := u3) (lo := lo) (e := 71) (s := 4) (A := some ⟨g8, 0, none⟩) (n := 0 + 1) (cap := oc8) (zs := [4, (n : Int) + 1, (n : Int) + 1, (n : Int) + 1]) hown (p := ⟨gN, 18, none⟩) (fun a ha e => by
                    have h1 : u3.heap[g8]? = _ := rfl
                    cases ha
                    have h2 : g8 = gN := e
                    exact (row_not_blk hown (by rw [h2]; exact KN3) (by decide)).elim) (.slice (some ⟨g8, 0, none⟩) (0 + 1) oc8)
                  exact ⟨g8, oc8, KN3.set_ 18 _, ((HR_7.out.below E2).wroteA W3 (fun a ha => by have := hOlt a ha; show a.block ≠ gR; omega)).far (p := ⟨gN, 18, none⟩) (show gR ≠ gN by omega) _,
                    ((HT_7.out.below E2).wrote W3 (fun a ha => Rg.no (by have := hOlt a ha; omega))).far (g := gN) (Rg.no (by omega)) 18 _,
                    ((HL_7.out.below E2).wrote W3 (fun a b ha hb => hl5o a b ha hb)).far (p := ⟨gN, 18, none⟩) (fun a ha => by rcases hl5 a ha with h | h <;> (show a.block ≠ gN; omega)) _,
                    ((HS_7.out.below E2).wrote W3 (fun a b ha hb => by have h1 := HS_7.out.ge a ha; have h2 := hOlt b hb; omega)).far (p := ⟨gN, 18, none⟩) (fun a ha => by have := HS_7.out.ge a ha; show a.block ≠ gN; omega) _,
                    hg8, ((f7.trans (E2.mono zlo)).grown hgrow (by omega) (fun k e => by
                      cases O with
                      | none => cases e
                      | some a => cases e; exact HO_7.out.ge a rfl)).setCell (p := ⟨gN, 18, none⟩) (show lo ≤ gN by omega) _, by simp only [size_set]; omega⟩
                exact AllReady.nil
              exact AllReady.nil
            exact AllReady.nil
          refine AllReady.cons rfl (fun K hK => ?_) ?_
          · skip
            go_simp
            obtain ⟨u2, hu⟩ : ∃ x : World, x = u1.alloc (.cells #[.int .i64 4, .int .i64 ((n : Int) + 1), .int .i64 ((n : Int) + 1), .int .i64 ((n : Int) + 1)] 71) := ⟨_, rfl⟩
            rw [← hu]
            have E2 : Below v7.heap.size v7 u2 := by rw [hu]; exact E1.alloc E1.size _
            have zu2 : u1.heap.size + 1 ≤ u2.heap.size := by rw [hu]; simp
            have hck := (fun j u hj => by rw [hu]; exact cell_four_ack rfl j u hj : ∀ j u, (ints [4, (n : Int) + 1, (n : Int) + 1, (n : Int) + 1])[j]? = some u → u2.cell? ((⟨u1.heap.size, 0, none⟩ : Addr).add j) = some u)
            clear hu
            refine hK _ _ ?_
            clear hK K
            try change wpAny _ _ _ _ _ _ (Act.put _ (some 75) _) _
            try simp only [Act.put, List.setIfInBounds_toArray, List.set_cons_zero, List.set_cons_succ]
            refine wpAny_ready (rs := [1]) (by kernel_rfl) (by simp) ?_
            refine AllReady.cons rfl (fun K hK => ?_) ?_
            · skip
              have x18 := (HN_7.out.below E2).cell 18
              have ltN := (HN_7.out.below E2).lt
              go_simp
              clear x18 ltN
              refine hK _ _ ?_
              clear hK K
              try change wpAny _ _ _ _ _ _ (Act.put _ (some 72) _) _
              try simp only [Act.put, List.setIfInBounds_toArray, List.set_cons_zero, List.set_cons_succ]
              refine wpAny_ready (rs := [5]) (by kernel_rfl) (by simp) ?_
              refine AllReady.cons rfl (fun K hK => ?_) ?_
              · skip
                rw [if_pos (by rfl)]
                refine wp_append_own _ (.tmp 72) (.tmp 75) 49 rfl lo 71 iA _ 4 32 Tryz.underlying49 hiA hzA hsA hyA (by first | kernel_rfl | simp [Value.cells]) (by decide) (.slice O 0 oc) 0 [] rfl (by have h0 := HO_7.out.below E2; rw [hO0] at h0; exact h0) ⟨u1.heap.size, 0, none⟩ 1 1 (ints [4, (n : Int) + 1, (n : Int) + 1, (n : Int) + 1]) rfl rfl hck (ints_oneCell' _) (by unfold maxLen; omega) (by omega) (by omega) ?_
                intro v' u3 hown hgrow _
                obtain ⟨g8, oc8, rfl⟩ := ownsRow_succ hown
                have W3 : Wrote u2 u3 O := by cases O <;> exact hgrow
                have zu3 := W3.size
                have KN3 := (HN_7.out.below E2).wroteA W3 (fun a ha => by have := hOlt a ha; show a.block ≠ gN; omega)
                have x18 := KN3.cell 18
                have w18 := KN3.frozen 18
                have ltN := KN3.lt
                clear hck
                refine hK _ _ ?_
                clear hK K
                try change wpAny _ _ _ _ _ _ (Act.put _ (some 76) _) _
                try simp only [Act.put, List.setIfInBounds_toArray, List.set_cons_zero, List.set_cons_succ]
                refine wpAny_take (i := 6) (oi := _) (v := ?_) rfl (by kernel_rfl) (by kernel_rfl) (by kernel_rfl) (fun _ _ _ h => h) (Or.inl ⟨by rfl, ?_⟩) ?_
                rotate_left 1
                · intro w; (go_simp <;> with_reducible rfl)
                change wpAny _ _ _ _ _ _ (Act.put _ (some 77) _) _
                simp only [Act.put, List.setIfInBounds_toArray, List.set_cons_zero, List.set_cons_succ]
                refine wpAny_ready (rs := [7]) (by kernel_rfl) (by simp) ?_
                refine AllReady.cons rfl (fun K hK => ?_) ?_
                · skip
                  go_simp
                  refine hK _ _ ?_
                  clear hK K
                  try change wpAny _ _ _ _ _ _ (Act.put _ none _) _
                  try simp only [Act.put, List.setIfInBounds_toArray, List.set_cons_zero, List.set_cons_succ]
                  refine wpAny_done (by kernel_rfl) ?_ _
                  go_wp2_with fail
                  go_meet
                  have hg8 := Row.far (w := u3) (lo := lo) (e := 71) (s := 4) (A := some ⟨g8, 0, none⟩) (n := 0 + 1) (cap := oc8) (zs := [4, (n : Int) + 1, (n : Int) + 1, (n : Int) + 1]) hown (p := ⟨gN, 18, none⟩) (fun a ha e => by
                    have h1 : u3.heap[g8]? = _ := rfl
                    cases ha
                    have h2 : g8 = gN := e
                    exact (row_not_blk hown (by rw [h2]; exact KN3) (by decide)).elim) (.slice (some ⟨g8, 0, none⟩) (0 + 1) oc8)
                  exact ⟨g8, oc8, KN3.set_ 18 _, ((HR_7.out.below E2).wroteA W3 (fun a ha => by have := hOlt a ha; show a.block ≠ gR; omega)).far (p := ⟨gN, 18, none⟩) (show gR ≠ gN by omega) _,
                    ((HT_7.out.below E2).wrote W3 (fun a ha => Rg.no (by have := hOlt a ha; omega))).far (g := gN) (Rg.no (by omega)) 18 _,
                    ((HL_7.out.below E2).wrote W3 (fun a b ha hb => hl5o a b ha hb)).far (p := ⟨gN, 18, none⟩) (fun a ha => by rcases hl5 a ha with h | h <;> (show a.block ≠ gN; omega)) _,
                    ((HS_7.out.below E2).wrote W3 (fun a b ha hb => by have h1 := HS_7.out.ge a ha; have h2 := hOlt b hb; omega)).far (p := ⟨gN, 18, none⟩) (fun a ha => by have := HS_7.out.ge a ha; show a.block ≠ gN; omega) _,
                    hg8, ((f7.trans (E2.mono zlo)).grown hgrow (by omega) (fun k e => by
                      cases O with
                      | none => cases e
                      | some a => cases e; exact HO_7.out.ge a rfl)).setCell (p := ⟨gN, 18, none⟩) (show lo ≤ gN by omega) _, by simp only [size_set]; omega⟩
                exact AllReady.nil
              exact AllReady.nil
            exact AllReady.nil
          exact AllReady.nil
        exact AllReady.nil
      exact AllReady.nil
    case rest =>
      obtain ⟨g8, oc8, KN8, KR8, KT8, KL8, KS8, KO8, f8, z8⟩ := hcut
      rename World => v8
      have HK8 := Lib.hid (And.intro KN8 KR8)
      have HK9 := Lib.hid (And.intro KT8 (And.intro KL8 (And.intro KS8 KO8)))
      clear KN8 KR8 KT8 KL8 KS8 KO8 HN_7 HE_7 HR_7 HT_7 HL_7 HS_7 HO_7
    
      go_wp2_with (first | (show wpList _ _ _ (Oper.mk _ (Op.load 51 _) _ _ _ _ :: _) _ _; refine wpList_load_row rfl 51 _ rfl gN rfl 51 #[.slice K1 22 c1, .slice W1 1 d1, .slice K2 22 c2, .slice W2 1 d2, .int .i64 0, .int .i64 0, .int .i64 0, .slice H 0 hc, .int .i64 0, .int .i64 0, .int .i64 0, .slice X 0 xc, .bool false, .int .i64 0, .int .i64 0, .slice L5 (n + 1) lc5, .slice S6 1 sc6, .int .i64 (n : Nat), .slice (some ⟨g8, 0, none⟩) 1 oc8] (0, 0) _ HK8.out.1 Tryz.underlying51 rfl (by kernel_rfl) ?_) | (show wpList _ _ _ (Oper.mk _ (Op.store _ _ _) _ _ _ _ :: _) _ _; refine wpList_store_row rfl 51 _ _ rfl gR #[.slice K1 22 c1, .slice W1 1 d1, .slice K2 22 c2, .slice W2 1 d2, .int .i64 0, .int .i64 0, .int .i64 0, .slice H 0 hc, .int .i64 0, .int .i64 0, .int .i64 0, .slice X 0 xc, .bool false, .int .i64 0, .int .i64 0, .slice L5 (n + 1) lc5, .slice S6 1 sc6, .int .i64 (n : Nat), .slice (some ⟨g8, 0, none⟩) 1 oc8] rfl rfl 51 #[.slice none 0 0, .slice none 0 0, .slice none 0 0, .slice none 0 0, .int .i64 0, .int .i64 0, .int .i64 0, .slice none 0 0, .int .i64 0, .int .i64 0, .int .i64 0, .slice none 0 0, .bool false, .int .i64 0, .int .i64 0, .slice none 0 0, .slice none 0 0, .int .i64 0, .slice none 0 0] HK8.out.2 (by kernel_rfl) rfl (by simp [Value.oneCell']) ?_))
      go_wp21
      refine bodyPost_ret (v := .tuple #[.agg #[.slice K1 22 c1, .slice W1 1 d1, .slice K2 22 c2, .slice W2 1 d2, .int .i64 0, .int .i64 0, .int .i64 0, .slice H 0 hc, .int .i64 0, .int .i64 0, .int .i64 0, .slice X 0 xc, .bool false, .int .i64 0, .int .i64 0, .slice L5 (n + 1) lc5, .slice S6 1 sc6, .int .i64 (n : Nat), .slice (some ⟨g8, 0, none⟩) 1 oc8], .nilIface]) (results_row_tmp rfl _ _ gR 51 #[.slice K1 22 c1, .slice W1 1 d1, .slice K2 22 c2, .slice W2 1 d2, .int .i64 0, .int .i64 0, .int .i64 0, .slice H 0 hc, .int .i64 0, .int .i64 0, .int .i64 0, .slice X 0 xc, .bool false, .int .i64 0, .int .i64 0, .slice L5 (n + 1) lc5, .slice S6 1 sc6, .int .i64 (n : Nat), .slice (some ⟨g8, 0, none⟩) 1 oc8] (0, 0) _ _ rfl (HK8.out.2.setRow _) Tryz.underlying51 rfl (by kernel_rfl) rfl) rfl ?_
      have hx := HK9.out
      have hcap := Row.cap_le hx.2.1
      have g1 : ∀ a, L5 = some a → a.block ≠ gR := fun a ha => by rcases hl5 a ha with h | h <;> omega
      have g2 : ∀ a, S6 = some a → a.block ≠ gR := fun a ha => by have := Row.ge hx.2.2.1 a ha; omega
      have g3 : g8 ≠ gR := fun e => row_not_blk hx.2.2.2 (by rw [e]; exact HK8.out.2) (by decide)
      have q1 := (hx.1.rowFar (g := gR) (Rg.no (by omega)) #[.slice K1 22 c1, .slice W1 1 d1, .slice K2 22 c2, .slice W2 1 d2, .int .i64 0, .int .i64 0, .int .i64 0, .slice H 0 hc, .int .i64 0, .int .i64 0, .int .i64 0, .slice X 0 xc, .bool false, .int .i64 0, .int .i64 0, .slice L5 (n + 1) lc5, .slice S6 1 sc6, .int .i64 (n : Nat), .slice (some ⟨g8, 0, none⟩) 1 oc8]).sub (Rg.sub (c := lo) (d := (v8.setRow gR #[.slice K1 22 c1, .slice W1 1 d1, .slice K2 22 c2, .slice W2 1 d2, .int .i64 0, .int .i64 0, .int .i64 0, .slice H 0 hc, .int .i64 0, .int .i64 0, .int .i64 0, .slice X 0 xc, .bool false, .int .i64 0, .int .i64 0, .slice L5 (n + 1) lc5, .slice S6 1 sc6, .int .i64 (n : Nat), .slice (some ⟨g8, 0, none⟩) 1 oc8]).heap.size) (by omega) (by rw [setRow_size]; omega))
      have q2 := (Row.on (Row.rowFar hx.2.1 g1 #[.slice K1 22 c1, .slice W1 1 d1, .slice K2 22 c2, .slice W2 1 d2, .int .i64 0, .int .i64 0, .int .i64 0, .slice H 0 hc, .int .i64 0, .int .i64 0, .int .i64 0, .slice X 0 xc, .bool false, .int .i64 0, .int .i64 0, .slice L5 (n + 1) lc5, .slice S6 1 sc6, .int .i64 (n : Nat), .slice (some ⟨g8, 0, none⟩) 1 oc8])).map (fun v hv => Row.sl hv)
      have q3 := ((Row.on (Row.rowFar hx.2.2.1 g2 #[.slice K1 22 c1, .slice W1 1 d1, .slice K2 22 c2, .slice W2 1 d2, .int .i64 0, .int .i64 0, .int .i64 0, .slice H 0 hc, .int .i64 0, .int .i64 0, .int .i64 0, .slice X 0 xc, .bool false, .int .i64 0, .int .i64 0, .slice L5 (n + 1) lc5, .slice S6 1 sc6, .int .i64 (n : Nat), .slice (some ⟨g8, 0, none⟩) 1 oc8])).map (fun v hv => Row.sl hv)).sub (Rg.sub (c := lo) (d := (v8.setRow gR #[.slice K1 22 c1, .slice W1 1 d1, .slice K2 22 c2, .slice W2 1 d2, .int .i64 0, .int .i64 0, .int .i64 0, .slice H 0 hc, .int .i64 0, .int .i64 0, .int .i64 0, .slice X 0 xc, .bool false, .int .i64 0, .int .i64 0, .slice L5 (n + 1) lc5, .slice S6 1 sc6, .int .i64 (n : Nat), .slice (some ⟨g8, 0, none⟩) 1 oc8]).heap.size) (by omega) (Nat.le_refl _))
      have q4 := (Row.on (Row.rowFar hx.2.2.2 (fun a ha => by cases ha; exact g3) #[.slice K1 22 c1, .slice W1 1 d1, .slice K2 22 c2, .slice W2 1 d2, .int .i64 0, .int .i64 0, .int .i64 0, .slice H 0 hc, .int .i64 0, .int .i64 0, .int .i64 0, .slice X 0 xc, .bool false, .int .i64 0, .int .i64 0, .slice L5 (n + 1) lc5, .slice S6 1 sc6, .int .i64 (n : Nat), .slice (some ⟨g8, 0, none⟩) 1 oc8])).map (fun v hv => Row.sl hv)
      have hlen : (es ++ [(⟨(n : Int) + 1, et, 4, (n : Int) + 1, 1, ea, eb, 0, 0⟩ : En)]).length = n + 1 := by rw [List.length_append, List.length_singleton, HNN.out]
      have ht : (es ++ [(⟨(n : Int) + 1, et, 4, (n : Int) + 1, 1, ea, eb, 0, 0⟩ : En)]).take n = es := by rw [HNN.out]; simp
      have hw : waitD (es ++ [(⟨(n : Int) + 1, et, 4, (n : Int) + 1, 1, ea, eb, 0, 0⟩ : En)]) n = [(((3 + n : Nat) : Int), withL [(n : Int) + 1, et, 4, (n : Int) + 1, 1, ea, eb, 0, 0, (n : Int) + 1, (n : Int) + 1])] := by
        unfold waitD
        rw [if_pos (by omega), show (es ++ [(⟨(n : Int) + 1, et, 4, (n : Int) + 1, 1, ea, eb, 0, 0⟩ : En)]).getD n default = ⟨(n : Int) + 1, et, 4, (n : Int) + 1, 1, ea, eb, 0, 0⟩ by rw [HNN.out]; simp [List.getD]]
        rfl
      have ho : oweL (es ++ [(⟨(n : Int) + 1, et, 4, (n : Int) + 1, 1, ea, eb, 0, 0⟩ : En)]) n = [4, (n : Int) + 1, (n : Int) + 1, (n : Int) + 1] := by unfold oweL; rw [if_pos (by omega), hlen, show ((n + 1 : Nat) : Int) = (n : Int) + 1 by omega]
      refine ⟨K1, c1, W1, d1, K2, c2, W2, d2, H, hc, X, xc, L5, lc5, S6, sc6, some ⟨g8, 0, none⟩, oc8, rfl, ?_, Below.rowFar f8 (g := gR) (by omega) _⟩
      exact (q1.and (q2.and (q3.and q4))).map (fun x h => ⟨by rw [ht, hw]; exact h.1.1, by rw [ht, hw]; exact h.1.2, by rw [EN_append]; exact h.2.1, h.2.2.1, by rw [ho]; exact h.2.2.2, by unfold waitN; rw [if_pos (by omega)], hlen.symm, by unfold markN; rw [if_neg (by omega)], by unfold oweN; rw [if_pos (by omega)], hcap, HPP.out, HZ.out, by omega, by omega⟩)
end Go.Proofs.YtbheflinchabgaaGreatDoor
namespace Go.Proofs.YtbheflinchabgaaGreatDoor
set_option linter.unusedSimpArgs false
set_option linter.unusedVariables false
attribute [local go_sem] n_lt2 n_lt3 n_lt4 n_le2 n_le3
open Go.RowKit
attribute [local go_sem] Ext.cell Ext.frozen
theorem Own3.below {w w' : World} {lo : Nat} {L S O : Option Addr} {lc oc n no : Nat} {es : List En} {D : Nat} (h : Own3 w lo L S O lc oc n no es D) (hb : Below w.heap.size w w') : Own3 w' lo L S O lc oc n no es D :=
  ⟨Row.below h.l hb, Row.below h.o hb, h.ls, h.lo, h.so⟩
theorem Own3.on {w : World} {lo : Nat} {L S O : Option Addr} {lc oc n no : Nat} {es : List En} {D : Nat} (h : Own3 w lo L S O lc oc n no es D) : On (Rg lo w.heap.size) (fun x => Own3 x lo L S O lc oc n no es D) w :=
  ((Row.on h.l).and (Row.on h.o)).map (fun v hv => ⟨hv.1, hv.2, h.ls, h.lo, h.so⟩)
theorem sl_of_ack {w : World} {g e : Nat} {x0 x1 x2 x3 : Int} (h : Blk w g e #[.int .i64 x0, .int .i64 x1, .int .i64 x2, .int .i64 x3]) : Sl w 4 (some ⟨g, 0, none⟩) 1 [x0, x1, x2, x3] :=
  ⟨rfl, fun _ => ⟨g, 0, rfl, h.lt, fun j hj => by
    match j, hj with
    | 0, _ => exact h.cell 0
    | 1, _ => exact h.cell 1
    | 2, _ => exact h.cell 2
    | 3, _ => exact h.cell 3⟩⟩
theorem Blk.belL {w w' : World} {g e l : Nat} {cs : Array Value} (h : Blk w g e cs) (hb : Below l w w') (hl : g < l) : Blk w' g e cs := (hb.block g hl).trans h
def RetAsk0 (w : World) (m n ns no : Nat) (es : List En) (D : Nat) (z : List Int) (e : Ending) (w' : World) : Prop := ∃ KA cA WA dA KB cB WB dB H hc X xc L lc S sc O oc, e = .returned (.tuple #[.agg #[.slice KA 22 cA, .slice WA m dA, .slice KB 22 cB, .slice WB m dB, .int .i64 0, .int .i64 0, .int .i64 0, .slice H 0 hc, .int .i64 0, .int .i64 0, .int .i64 0, .slice X 0 xc, .bool false, .int .i64 0, .int .i64 0, .slice L n lc, .slice S ns sc, .int .i64 (D : Nat), .slice O no oc], .slice none 0 0]) ∧
  On (Rg w.heap.size w'.heap.size) (fun x => LgW x KA WA KB WB L S O lc m n ns no es D z) w' ∧ Below w.heap.size w w'
def RetAsk1 (w : World) (n ns no : Nat) (es : List En) (z : List Int) (e : Ending) (w' : World) : Prop := ∃ KA cA WA dA KB cB WB dB H hc X xc L lc S sc O oc gA, e = .returned (.tuple #[.agg #[.slice KA 22 cA, .slice WA 0 dA, .slice KB 22 cB, .slice WB 0 dB, .int .i64 0, .int .i64 0, .int .i64 0, .slice H 0 hc, .int .i64 0, .int .i64 0, .int .i64 0, .slice X 0 xc, .bool false, .int .i64 0, .int .i64 0, .slice L n lc, .slice S ns sc, .int .i64 (n : Nat), .slice O no oc], .slice (some ⟨gA, 0, none⟩) 1 1]) ∧
  On (Rg w.heap.size w'.heap.size) (fun x => LgW x KA WA KB WB L S O lc 0 n ns no es n z ∧ Sl x 4 (some ⟨gA, 0, none⟩) 1 [4, (n : Int), (n : Int), (n : Int)]) w' ∧ Below w.heap.size w w'
theorem markOf_marks (S : Option Addr) (c : Nat) (es : List En) (w : World) (hS : Sl w 3 S (markN es) (markL es)) : Calls Tryz.prog 32 #[.slice S (markN es) c, .int .i64 4] w fun e w' => ∃ c0 : Int, e = .returned (.agg #[.int .i64 c0, .int .i64 es.length, .int .i64 es.length]) ∧ Below w.heap.size w w' := by
  by_cases h : es.length = 0
  · have e1 : markN es = 0 := by unfold markN; rw [if_pos h]
    rw [e1, h]
    exact (markOf_zero S c 4 w).mono fun e w' hx => ⟨0, hx.1, hx.2⟩
  · have e1 : markN es = 1 := by unfold markN; rw [if_neg h]
    have e2 : markL es = [4, (es.length : Int), (es.length : Int)] := by unfold markL; rw [if_neg h]
    rw [e1, e2] at hS
    rw [e1]
    exact (markOf_one S c 4 _ _ w hS).mono fun e w' hx => ⟨4, hx.1, hx.2⟩
set_option maxRecDepth 100000 in
set_option maxHeartbeats 8000000 in
theorem askedOf_fresh (KA : Option Addr) (cA : Nat) (WA : Option Addr) (dA : Nat) (KB : Option Addr) (cB : Nat) (WB : Option Addr) (dB : Nat) (H : Option Addr) (hc : Nat) (X : Option Addr) (xc : Nat) (L : Option Addr) (lc : Nat) (S : Option Addr) (sc : Nat) (O : Option Addr) (oc : Nat) (n ns : Nat) (es : List En) (z : List Int) (ea eb et now : Int) (het : et = max now (timeL es)) (w : World) (hG : LgW w KA WA KB WB L S O lc 0 n ns 0 es n z) (hn7 : n < 8) (hp : entsP (es ++ [⟨(n : Int) + 1, et, 4, (n : Int) + 1, 1, ea, eb, 0, 0⟩])) (hti : inB now 0 1000000 = true) :
    Calls Tryz.prog 11 #[.agg #[.slice KA 22 cA, .slice WA 0 dA, .slice KB 22 cB, .slice WB 0 dB, .int .i64 0, .int .i64 0, .int .i64 0, .slice H 0 hc, .int .i64 0, .int .i64 0, .int .i64 0, .slice X 0 xc, .bool false, .int .i64 0, .int .i64 0, .slice L n lc, .slice S ns sc, .int .i64 (n : Nat), .slice O 0 oc], .agg #[.int .i64 4, .int .i64 ((n : Int) + 1), .int .i64 1, .int .i64 ea, .int .i64 eb, .int .i64 0, .int .i64 0], .int .i64 now] w (RetAsk0 w 1 (n + 1) 1 1 (es ++ [⟨(n : Int) + 1, et, 4, (n : Int) + 1, 1, ea, eb, 0, 0⟩]) n z) := by
  have HNN := Lib.hid hG.hn
  have HNS := Lib.hid hG.hs
  have HPP := Lib.hid hp
  have HET := Lib.hid het
  have HTI := Lib.hid hti
  have hpn := hp.2.1 n (by rw [List.length_append, ← hG.hn]; simp)
  rw [show (es ++ [(⟨(n : Int) + 1, et, 4, (n : Int) + 1, 1, ea, eb, 0, 0⟩ : En)]).getD n default = ⟨(n : Int) + 1, et, 4, (n : Int) + 1, 1, ea, eb, 0, 0⟩ by rw [hG.hn]; simp [List.getD]] at hpn
  have HAK := Lib.hid (show askB 4 ((n : Int) + 1) 1 ea eb 0 0 = true by
    have h1 := entP_ok hpn (by omega)
    unfold entryB at h1
    unfold askB
    simp only [Bool.and_eq_true] at h1 ⊢
    exact ⟨h1.2.2.1, h1.2.2.2.1, h1.2.2.2.2⟩)
  clear hpn hp hti het
  have HIG : Hid (On (Rg 0 w.heap.size) (fun x => LgW x KA WA KB WB L S O lc 0 n ns 0 es n z) w) := Lib.hid (On.below_of (fun _ hb => (hG).below hb))
  clear hG
  go_enter Tryz.func11, Tryz.ntmps11
  go_upto_region 1 with fail
  obtain ⟨v0, hv0⟩ : ∃ x : World, x = (((w.alloc (.cells #[.slice KA 22 cA, .slice WA 0 dA, .slice KB 22 cB, .slice WB 0 dB, .int .i64 0, .int .i64 0, .int .i64 0, .slice H 0 hc, .int .i64 0, .int .i64 0, .int .i64 0, .slice X 0 xc, .bool false, .int .i64 0, .int .i64 0, .slice L n lc, .slice S ns sc, .int .i64 (n : Nat), .slice O 0 oc] 51)).alloc (.cells #[.int .i64 4, .int .i64 ((n : Int) + 1), .int .i64 1, .int .i64 ea, .int .i64 eb, .int .i64 0, .int .i64 0] 56)).alloc (.cells #[.slice none 0 0, .slice none 0 0, .slice none 0 0, .slice none 0 0, .int .i64 0, .int .i64 0, .int .i64 0, .slice none 0 0, .int .i64 0, .int .i64 0, .int .i64 0, .slice none 0 0, .bool false, .int .i64 0, .int .i64 0, .slice none 0 0, .slice none 0 0, .int .i64 0, .slice none 0 0] 51)) := ⟨_, rfl⟩
  rw [← hv0]
  have f0 : Below w.heap.size w v0 := by rw [hv0]; (repeat' (first | (with_reducible exact Below.refl _ _) | (with_reducible assumption) | (with_reducible refine Below.alloc ?_ ?_ _) | (with_reducible refine Below.drew ?_) | (with_reducible refine Below.setCell ?_ ?_ _) | (with_reducible refine bstep (by assumption) ?_ ?_) | (with_reducible exact Nat.le_refl _) | omega | (simp [*]; done) | (simp [*]; omega)))
  have z0 : w.heap.size + 3 ≤ v0.heap.size := by rw [hv0]; simp [size_set]
  have HN_0 : Hid (Blk v0 w.heap.size 51 #[.slice KA 22 cA, .slice WA 0 dA, .slice KB 22 cB, .slice WB 0 dB, .int .i64 0, .int .i64 0, .int .i64 0, .slice H 0 hc, .int .i64 0, .int .i64 0, .int .i64 0, .slice X 0 xc, .bool false, .int .i64 0, .int .i64 0, .slice L n lc, .slice S ns sc, .int .i64 (n : Nat), .slice O 0 oc]) := by rw [hv0]; exact Lib.hid ((((Blk.new_at _ _ _ _ (by simp [size_set]))).alloc _).alloc _)
  have HQ_0 : Hid (Blk v0 (w.heap.size + 1) 56 #[.int .i64 4, .int .i64 ((n : Int) + 1), .int .i64 1, .int .i64 ea, .int .i64 eb, .int .i64 0, .int .i64 0]) := by rw [hv0]; exact Lib.hid (((Blk.new_at _ _ _ _ (by simp [size_set]))).alloc _)
  have HR_0 : Hid (Blk v0 (w.heap.size + 2) 51 #[.slice none 0 0, .slice none 0 0, .slice none 0 0, .slice none 0 0, .int .i64 0, .int .i64 0, .int .i64 0, .slice none 0 0, .int .i64 0, .int .i64 0, .int .i64 0, .slice none 0 0, .bool false, .int .i64 0, .int .i64 0, .slice none 0 0, .slice none 0 0, .int .i64 0, .slice none 0 0]) := by rw [hv0]; exact Lib.hid ((Blk.new_at _ _ _ _ (by simp [size_set])))
  clear hv0
  obtain ⟨gR, hgR⟩ : ∃ q, q = w.heap.size + 2 := ⟨_, rfl⟩
  rw [← hgR] at HR_0
  try rw [← hgR]
  have lgR : w.heap.size ≤ gR := by omega
  have mgR : gR < v0.heap.size := by omega
  have ngR : ∀ k, w.heap.size ≤ k → k ≠ gR → True := fun _ _ _ => trivial
  clear ngR
  obtain ⟨gQ, hgQ⟩ : ∃ q, q = w.heap.size + 1 := ⟨_, rfl⟩
  rw [← hgQ] at HQ_0
  try rw [← hgQ]
  have lgQ : w.heap.size ≤ gQ := by omega
  have mgQ : gQ < v0.heap.size := by omega
  have ngQ : ∀ k, w.heap.size ≤ k → k ≠ gQ → True := fun _ _ _ => trivial
  clear ngQ
  obtain ⟨gN, hgN⟩ : ∃ q, q = w.heap.size := ⟨_, rfl⟩
  rw [← hgN] at HN_0
  try rw [← hgN]
  have lgN : w.heap.size ≤ gN := by omega
  have mgN : gN < v0.heap.size := by omega
  have ngN : ∀ k, w.heap.size ≤ k → k ≠ gN → True := fun _ _ _ => trivial
  clear ngN
  have nnNQ : gN < gQ := by omega
  have nnNR : gN < gR := by omega
  have nnQR : gQ < gR := by omega
  clear hgN
  clear hgQ
  clear hgR
  go_wp2_with (show wpList _ _ _ (Oper.mk _ (Op.load 51 _) _ _ _ _ :: _) _ _; refine wpList_load_row rfl 51 _ rfl gN rfl 51 #[.slice KA 22 cA, .slice WA 0 dA, .slice KB 22 cB, .slice WB 0 dB, .int .i64 0, .int .i64 0, .int .i64 0, .slice H 0 hc, .int .i64 0, .int .i64 0, .int .i64 0, .slice X 0 xc, .bool false, .int .i64 0, .int .i64 0, .slice L n lc, .slice S ns sc, .int .i64 (n : Nat), .slice O 0 oc] (0, 0) _ HN_0.out Tryz.underlying51 rfl (by kernel_rfl) ?_)
  refine (logOk_yes KA cA WA dA KB cB WB dB H hc X xc L lc S sc O oc 0 n ns 0 n es z v0 ((HIG.out).inB f0 (fun _ hk => hk.2)).out).mono ?_
  rintro e v1 ⟨rfl, b1⟩
  have f1 := bthen f0 b1
  have z1 := b1.size
  have HN_1 := Lib.hid (HN_0.out.below b1)
  have HQ_1 := Lib.hid (HQ_0.out.below b1)
  have HR_1 := Lib.hid (HR_0.out.below b1)
  clear HN_0 HQ_0 HR_0
  go_wp2_with (show wpList _ _ _ (Oper.mk _ (Op.load 51 _) _ _ _ _ :: _) _ _; refine wpList_load_row rfl 51 _ rfl gN rfl 51 #[.slice KA 22 cA, .slice WA 0 dA, .slice KB 22 cB, .slice WB 0 dB, .int .i64 0, .int .i64 0, .int .i64 0, .slice H 0 hc, .int .i64 0, .int .i64 0, .int .i64 0, .slice X 0 xc, .bool false, .int .i64 0, .int .i64 0, .slice L n lc, .slice S ns sc, .int .i64 (n : Nat), .slice O 0 oc] (0, 0) _ HN_1.out Tryz.underlying51 rfl (by kernel_rfl) ?_)
  refine (copyLog_yes KA cA WA dA KB cB WB dB H hc X xc L lc S sc O oc 0 n ns 0 n es z v1 ((HIG.out).inB f1 (fun _ hk => hk.2)).out).mono ?_
  rintro e v2 ⟨KA', cA', WA', dA', KB', cB', WB', dB', H', hc', X', xc', L', lc', S', sc', O', oc', rfl, hO, hw, b2⟩
  have hOw := Own3.on hw
  clear hw
  have f2 := bthen f1 b2
  have z2 := b2.size
  have HN_2 := Lib.hid (HN_1.out.below b2)
  have HQ_2 := Lib.hid (HQ_1.out.below b2)
  have HR_2 := Lib.hid (HR_1.out.below b2)
  clear HN_1 HQ_1 HR_1
  have HT_2 := Lib.hid (show On (Rg v1.heap.size v2.heap.size) (fun x => LgW x KA' WA' KB' WB' L' S' O' lc' 0 n ns 0 es n z) v2 from hO)
  clear hO
  have HW_2 := Lib.hid (show On (Rg v1.heap.size v2.heap.size) (fun x => Own3 x v1.heap.size L' S' O' lc' oc' n 0 es n) v2 from hOw)
  clear hOw
  go_upto_region 4 with (show wpList _ _ _ (Oper.mk _ (Op.store 51 _ _) _ _ _ _ :: _) _ _; refine wpList_store_new rfl 51 _ _ rfl _ #[.slice KA' 22 cA', .slice WA' 0 dA', .slice KB' 22 cB', .slice WB' 0 dB', .int .i64 0, .int .i64 0, .int .i64 0, .slice H' 0 hc', .int .i64 0, .int .i64 0, .int .i64 0, .slice X' 0 xc', .bool false, .int .i64 0, .int .i64 0, .slice L' n lc', .slice S' ns sc', .int .i64 (n : Nat), .slice O' 0 oc'] #[.slice none 0 0, .slice none 0 0, .slice none 0 0, .slice none 0 0, .int .i64 0, .int .i64 0, .int .i64 0, .slice none 0 0, .int .i64 0, .int .i64 0, .int .i64 0, .slice none 0 0, .bool false, .int .i64 0, .int .i64 0, .slice none 0 0, .slice none 0 0, .int .i64 0, .slice none 0 0] rfl rfl rfl (by kernel_rfl) rfl (by simp [Value.oneCell']) rfl ?_)
  obtain ⟨v3, hv3⟩ : ∃ x : World, x = (v2.alloc (.cells #[.slice KA' 22 cA', .slice WA' 0 dA', .slice KB' 22 cB', .slice WB' 0 dB', .int .i64 0, .int .i64 0, .int .i64 0, .slice H' 0 hc', .int .i64 0, .int .i64 0, .int .i64 0, .slice X' 0 xc', .bool false, .int .i64 0, .int .i64 0, .slice L' n lc', .slice S' ns sc', .int .i64 (n : Nat), .slice O' 0 oc'] 51)) := ⟨_, rfl⟩
  rw [← hv3]
  have f3 : Below w.heap.size w v3 := by rw [hv3]; (repeat' (first | (with_reducible exact Below.refl _ _) | (with_reducible assumption) | (with_reducible refine Below.alloc ?_ ?_ _) | (with_reducible refine Below.drew ?_) | (with_reducible refine Below.setCell ?_ ?_ _) | (with_reducible refine bstep (by assumption) ?_ ?_) | (with_reducible exact Nat.le_refl _) | omega | (simp [*]; done) | (simp [*]; omega)))
  have z3 : v2.heap.size + 1 ≤ v3.heap.size := by rw [hv3]; simp [size_set]
  have HN_3 : Hid (Blk v3 gN 51 #[.slice KA 22 cA, .slice WA 0 dA, .slice KB 22 cB, .slice WB 0 dB, .int .i64 0, .int .i64 0, .int .i64 0, .slice H 0 hc, .int .i64 0, .int .i64 0, .int .i64 0, .slice X 0 xc, .bool false, .int .i64 0, .int .i64 0, .slice L n lc, .slice S ns sc, .int .i64 (n : Nat), .slice O 0 oc]) := by rw [hv3]; exact Lib.hid ((HN_2.out).alloc _)
  have HQ_3 : Hid (Blk v3 gQ 56 #[.int .i64 4, .int .i64 ((n : Int) + 1), .int .i64 1, .int .i64 ea, .int .i64 eb, .int .i64 0, .int .i64 0]) := by rw [hv3]; exact Lib.hid ((HQ_2.out).alloc _)
  have HR_3 : Hid (Blk v3 gR 51 #[.slice none 0 0, .slice none 0 0, .slice none 0 0, .slice none 0 0, .int .i64 0, .int .i64 0, .int .i64 0, .slice none 0 0, .int .i64 0, .int .i64 0, .int .i64 0, .slice none 0 0, .bool false, .int .i64 0, .int .i64 0, .slice none 0 0, .slice none 0 0, .int .i64 0, .slice none 0 0]) := by rw [hv3]; exact Lib.hid ((HR_2.out).alloc _)
  have HT_3 : Hid (On (Rg v1.heap.size v2.heap.size) (fun x => LgW x KA' WA' KB' WB' L' S' O' lc' 0 n ns 0 es n z) v3) := by rw [hv3]; exact Lib.hid ((HT_2.out).alloc _)
  have HW_3 : Hid (On (Rg v1.heap.size v2.heap.size) (fun x => Own3 x v1.heap.size L' S' O' lc' oc' n 0 es n) v3) := by rw [hv3]; exact Lib.hid ((HW_2.out).alloc _)
  have HC_3 : Hid (Blk v3 v2.heap.size 51 #[.slice KA' 22 cA', .slice WA' 0 dA', .slice KB' 22 cB', .slice WB' 0 dB', .int .i64 0, .int .i64 0, .int .i64 0, .slice H' 0 hc', .int .i64 0, .int .i64 0, .int .i64 0, .slice X' 0 xc', .bool false, .int .i64 0, .int .i64 0, .slice L' n lc', .slice S' ns sc', .int .i64 (n : Nat), .slice O' 0 oc']) := by rw [hv3]; exact Lib.hid ((Blk.new_at _ _ _ _ (by simp [size_set])))
  clear hv3 HN_2 HQ_2 HR_2 HT_2 HW_2
  obtain ⟨gC, hgC⟩ : ∃ q, q = v2.heap.size := ⟨_, rfl⟩
  rw [← hgC] at HC_3
  try rw [← hgC]
  have lgC : v2.heap.size ≤ gC := by omega
  have mgC : gC < v3.heap.size := by omega
  have ngC : ∀ k, v2.heap.size ≤ k → k ≠ gC → True := fun _ _ _ => trivial
  clear ngC
  clear hgC
  have lt_Q := HQ_3.out.lt
  obtain ⟨r_Q0, r_Q1, r_Q2, r_Q3, r_Q4, r_Q5, r_Q6⟩ := bc7 HQ_3.out
  go_wp2_with fail
  have hcc := askOk_any 4 ((n : Int) + 1) 1 ea eb 0 0 v3
  rw [HAK.out] at hcc
  refine (hcc).mono ?_
  rintro e v4 ⟨rfl, b4⟩
  have f4 := bthen f3 b4
  have z4 := b4.size
  have HN_4 := Lib.hid (HN_3.out.below b4)
  have HQ_4 := Lib.hid (HQ_3.out.below b4)
  have HR_4 := Lib.hid (HR_3.out.below b4)
  have HT_4 := Lib.hid (HT_3.out.below b4)
  have HW_4 := Lib.hid (HW_3.out.below b4)
  have HC_4 := Lib.hid (HC_3.out.below b4)
  clear lt_Q r_Q0 r_Q1 r_Q2 r_Q3 r_Q4 r_Q5 r_Q6
  clear HN_3 HQ_3 HR_3 HT_3 HW_3 HC_3
  try clear hcc
  have lt_Q := HQ_4.out.lt
  obtain ⟨r_Q0, r_Q1, r_Q2, r_Q3, r_Q4, r_Q5, r_Q6⟩ := bc7 HQ_4.out
  go_wp2_with fail
  have hcc := timeOk_any now v4
  rw [HTI.out] at hcc
  refine hcc.mono ?_
  clear hcc
  rintro e w' ⟨rfl, rfl⟩
  have lt_N := HN_4.out.lt
  obtain ⟨r_N0, r_N1, r_N2, r_N3, r_N4, r_N5, r_N6, r_N7, r_N8, r_N9, r_N10, r_N11, r_N12, r_N13, r_N14, r_N15, r_N16, r_N17, r_N18⟩ := bc19 HN_4.out
  go_wp2_with fail
  have hcc := markOf_marks S sc es v4 (by rw [← HNS.out]; exact ((HIG.out).inB f4 (fun _ hk => hk.2)).out.s)
  rw [← HNS.out, ← HNN.out] at hcc
  refine hcc.mono ?_
  clear hcc
  rintro e v5 ⟨c0, rfl, b5⟩
  have f5 := bthen f4 b5
  have z5 := b5.size
  have HN_5 := Lib.hid (HN_4.out.below b5)
  have HQ_5 := Lib.hid (HQ_4.out.below b5)
  have HR_5 := Lib.hid (HR_4.out.below b5)
  have HT_5 := Lib.hid (HT_4.out.below b5)
  have HW_5 := Lib.hid (HW_4.out.below b5)
  have HC_5 := Lib.hid (HC_4.out.below b5)
  clear lt_Q r_Q0 r_Q1 r_Q2 r_Q3 r_Q4 r_Q5 r_Q6 lt_N r_N0 r_N1 r_N2 r_N3 r_N4 r_N5 r_N6 r_N7 r_N8 r_N9 r_N10 r_N11 r_N12 r_N13 r_N14 r_N15 r_N16 r_N17 r_N18
  clear HN_4 HQ_4 HR_4 HT_4 HW_4 HC_4
  go_upto_region 7 with fail
  obtain ⟨v6, hv6⟩ : ∃ x : World, x = (v5.alloc (.cells #[.int .i64 c0, .int .i64 (n : Nat), .int .i64 (n : Nat)] 97)) := ⟨_, rfl⟩
  rw [← hv6]
  have f6 : Below w.heap.size w v6 := by rw [hv6]; (repeat' (first | (with_reducible exact Below.refl _ _) | (with_reducible assumption) | (with_reducible refine Below.alloc ?_ ?_ _) | (with_reducible refine Below.drew ?_) | (with_reducible refine Below.setCell ?_ ?_ _) | (with_reducible refine bstep (by assumption) ?_ ?_) | (with_reducible exact Nat.le_refl _) | omega | (simp [*]; done) | (simp [*]; omega)))
  have z6 : v5.heap.size + 1 ≤ v6.heap.size := by rw [hv6]; simp [size_set]
  have HN_6 : Hid (Blk v6 gN 51 #[.slice KA 22 cA, .slice WA 0 dA, .slice KB 22 cB, .slice WB 0 dB, .int .i64 0, .int .i64 0, .int .i64 0, .slice H 0 hc, .int .i64 0, .int .i64 0, .int .i64 0, .slice X 0 xc, .bool false, .int .i64 0, .int .i64 0, .slice L n lc, .slice S ns sc, .int .i64 (n : Nat), .slice O 0 oc]) := by rw [hv6]; exact Lib.hid ((HN_5.out).alloc _)
  have HQ_6 : Hid (Blk v6 gQ 56 #[.int .i64 4, .int .i64 ((n : Int) + 1), .int .i64 1, .int .i64 ea, .int .i64 eb, .int .i64 0, .int .i64 0]) := by rw [hv6]; exact Lib.hid ((HQ_5.out).alloc _)
  have HR_6 : Hid (Blk v6 gR 51 #[.slice none 0 0, .slice none 0 0, .slice none 0 0, .slice none 0 0, .int .i64 0, .int .i64 0, .int .i64 0, .slice none 0 0, .int .i64 0, .int .i64 0, .int .i64 0, .slice none 0 0, .bool false, .int .i64 0, .int .i64 0, .slice none 0 0, .slice none 0 0, .int .i64 0, .slice none 0 0]) := by rw [hv6]; exact Lib.hid ((HR_5.out).alloc _)
  have HT_6 : Hid (On (Rg v1.heap.size v2.heap.size) (fun x => LgW x KA' WA' KB' WB' L' S' O' lc' 0 n ns 0 es n z) v6) := by rw [hv6]; exact Lib.hid ((HT_5.out).alloc _)
  have HW_6 : Hid (On (Rg v1.heap.size v2.heap.size) (fun x => Own3 x v1.heap.size L' S' O' lc' oc' n 0 es n) v6) := by rw [hv6]; exact Lib.hid ((HW_5.out).alloc _)
  have HC_6 : Hid (Blk v6 gC 51 #[.slice KA' 22 cA', .slice WA' 0 dA', .slice KB' 22 cB', .slice WB' 0 dB', .int .i64 0, .int .i64 0, .int .i64 0, .slice H' 0 hc', .int .i64 0, .int .i64 0, .int .i64 0, .slice X' 0 xc', .bool false, .int .i64 0, .int .i64 0, .slice L' n lc', .slice S' ns sc', .int .i64 (n : Nat), .slice O' 0 oc']) := by rw [hv6]; exact Lib.hid ((HC_5.out).alloc _)
  have HM_6 : Hid (Blk v6 v5.heap.size 97 #[.int .i64 c0, .int .i64 (n : Nat), .int .i64 (n : Nat)]) := by rw [hv6]; exact Lib.hid ((Blk.new_at _ _ _ _ (by simp [size_set])))
  clear hv6 HN_5 HQ_5 HR_5 HT_5 HW_5 HC_5
  obtain ⟨gM, hgM⟩ : ∃ q, q = v5.heap.size := ⟨_, rfl⟩
  rw [← hgM] at HM_6
  try rw [← hgM]
  have lgM : v5.heap.size ≤ gM := by omega
  have mgM : gM < v6.heap.size := by omega
  have ngM : ∀ k, v5.heap.size ≤ k → k ≠ gM → True := fun _ _ _ => trivial
  clear ngM
  clear hgM
  have hgt : (n : Int) < (n : Int) + 1 := by omega
  have lt_Q := HQ_6.out.lt
  obtain ⟨r_Q0, r_Q1, r_Q2, r_Q3, r_Q4, r_Q5, r_Q6⟩ := bc7 HQ_6.out
  have lt_M := HM_6.out.lt
  obtain ⟨r_M0, r_M1, r_M2⟩ := bc3 HM_6.out
  go_wp2_with (show wpList _ _ _ (Oper.mk _ (Op.load 51 _) _ _ _ _ :: _) _ _; refine wpList_load_row rfl 51 _ rfl gC rfl 51 #[.slice KA' 22 cA', .slice WA' 0 dA', .slice KB' 22 cB', .slice WB' 0 dB', .int .i64 0, .int .i64 0, .int .i64 0, .slice H' 0 hc', .int .i64 0, .int .i64 0, .int .i64 0, .slice X' 0 xc', .bool false, .int .i64 0, .int .i64 0, .slice L' n lc', .slice S' ns sc', .int .i64 (n : Nat), .slice O' 0 oc'] (0, 0) _ HC_6.out Tryz.underlying51 rfl (by kernel_rfl) ?_)
  refine (recorded_yes KA' cA' WA' dA' KB' cB' WB' dB' H' hc' X' xc' L' lc' S' sc' O' oc' n ns v1.heap.size es z ea eb et now HET.out v6 HT_6.out.out HW_6.out.out (by omega) hn7 HPP.out (by rw [HET.out]; omega)).mono ?_
  rintro e v7 ⟨KA2, cA2, WA2, dA2, KB2, cB2, WB2, dB2, H2, hc2, X2, xc2, L2, lc2, S2, sc2, O2, oc2, rfl, hO, f7⟩
  have HR_7 := Lib.hid (Blk.belL HR_6.out f7 (by omega))
  have HT2_7 := Lib.hid hO
  have F7 : Below w.heap.size w v7 := f6.trans (f7.mono (by omega))
  have z7 := f7.size
  clear hO f7 HT_6 HN_6 HQ_6 HR_6 HC_6 HM_6 HW_6
  go_wp2_with (show wpList _ _ _ (Oper.mk _ (Op.store 51 _ _) _ _ _ _ :: _) _ _; refine wpList_store_new rfl 51 _ _ rfl _ #[.slice KA2 22 cA2, .slice WA2 1 dA2, .slice KB2 22 cB2, .slice WB2 1 dB2, .int .i64 0, .int .i64 0, .int .i64 0, .slice H2 0 hc2, .int .i64 0, .int .i64 0, .int .i64 0, .slice X2 0 xc2, .bool false, .int .i64 0, .int .i64 0, .slice L2 (n + 1) lc2, .slice S2 1 sc2, .int .i64 (n : Nat), .slice O2 1 oc2] #[.slice none 0 0, .slice none 0 0, .slice none 0 0, .slice none 0 0, .int .i64 0, .int .i64 0, .int .i64 0, .slice none 0 0, .int .i64 0, .int .i64 0, .int .i64 0, .slice none 0 0, .bool false, .int .i64 0, .int .i64 0, .slice none 0 0, .slice none 0 0, .int .i64 0, .slice none 0 0] rfl rfl rfl (by kernel_rfl) rfl (by simp [Value.oneCell']) rfl ?_)
  refine calls_named ?_
  rintro v8 hv8
  have HR_8 : Hid (Blk v8 gR 51 #[.slice none 0 0, .slice none 0 0, .slice none 0 0, .slice none 0 0, .int .i64 0, .int .i64 0, .int .i64 0, .slice none 0 0, .int .i64 0, .int .i64 0, .int .i64 0, .slice none 0 0, .bool false, .int .i64 0, .int .i64 0, .slice none 0 0, .slice none 0 0, .int .i64 0, .slice none 0 0]) := by rw [hv8]; exact Lib.hid ((HR_7.out.alloc _).alloc _)
  have HX_8 : Hid (Blk v8 v7.heap.size 51 #[.slice KA2 22 cA2, .slice WA2 1 dA2, .slice KB2 22 cB2, .slice WB2 1 dB2, .int .i64 0, .int .i64 0, .int .i64 0, .slice H2 0 hc2, .int .i64 0, .int .i64 0, .int .i64 0, .slice X2 0 xc2, .bool false, .int .i64 0, .int .i64 0, .slice L2 (n + 1) lc2, .slice S2 1 sc2, .int .i64 (n : Nat), .slice O2 1 oc2]) := by rw [hv8]; exact Lib.hid ((Blk.new _ _ _).alloc _)
  have HT_8 : Hid (On (Rg v1.heap.size v7.heap.size) (fun x => LgW x KA2 WA2 KB2 WB2 L2 S2 O2 lc2 1 (n + 1) 1 1 (es ++ [⟨(n : Int) + 1, et, 4, (n : Int) + 1, 1, ea, eb, 0, 0⟩]) n z) v8) := by rw [hv8]; exact Lib.hid ((HT2_7.out.alloc _).alloc _)
  have f8 : Below w.heap.size w v8 := by rw [hv8]; exact (F7.alloc F7.size _).alloc (by have := F7.size; simp; omega) _
  have z8 : v7.heap.size + 2 ≤ v8.heap.size := by rw [hv8]; simp
  clear hv8 HR_7 HT2_7
  obtain ⟨gX, hgX⟩ : ∃ q, q = v7.heap.size := ⟨_, rfl⟩
  rw [← hgX] at HX_8
  try rw [← hgX]
  have lgX : v7.heap.size ≤ gX := by omega
  clear hgX
  refine (errorsAs_nil _ v8).mono ?_
  rintro e v9 ⟨rfl, b9⟩
  have f9 := bthen f8 b9
  have z9 := b9.size
  have HR_9 := Lib.hid (HR_8.out.below b9)
  have HX_9 := Lib.hid (HX_8.out.below b9)
  have HT_9 := Lib.hid (HT_8.out.below b9)
  clear HR_8 HX_8 HT_8
  go_wp2_with (first | (show wpList _ _ _ (Oper.mk _ (Op.load 51 _) _ _ _ _ :: _) _ _; refine wpList_load_row rfl 51 _ rfl gX rfl 51 #[.slice KA2 22 cA2, .slice WA2 1 dA2, .slice KB2 22 cB2, .slice WB2 1 dB2, .int .i64 0, .int .i64 0, .int .i64 0, .slice H2 0 hc2, .int .i64 0, .int .i64 0, .int .i64 0, .slice X2 0 xc2, .bool false, .int .i64 0, .int .i64 0, .slice L2 (n + 1) lc2, .slice S2 1 sc2, .int .i64 (n : Nat), .slice O2 1 oc2] (0, 0) _ HX_9.out Tryz.underlying51 rfl (by kernel_rfl) ?_) | (show wpList _ _ _ (Oper.mk _ (Op.store _ _ _) _ _ _ _ :: _) _ _; refine wpList_store_row rfl 51 _ _ rfl gR #[.slice KA2 22 cA2, .slice WA2 1 dA2, .slice KB2 22 cB2, .slice WB2 1 dB2, .int .i64 0, .int .i64 0, .int .i64 0, .slice H2 0 hc2, .int .i64 0, .int .i64 0, .int .i64 0, .slice X2 0 xc2, .bool false, .int .i64 0, .int .i64 0, .slice L2 (n + 1) lc2, .slice S2 1 sc2, .int .i64 (n : Nat), .slice O2 1 oc2] rfl rfl 51 #[.slice none 0 0, .slice none 0 0, .slice none 0 0, .slice none 0 0, .int .i64 0, .int .i64 0, .int .i64 0, .slice none 0 0, .int .i64 0, .int .i64 0, .int .i64 0, .slice none 0 0, .bool false, .int .i64 0, .int .i64 0, .slice none 0 0, .slice none 0 0, .int .i64 0, .slice none 0 0] HR_9.out (by kernel_rfl) rfl (by simp [Value.oneCell']) ?_))
  go_wp21
  refine bodyPost_ret (v := .tuple #[.agg #[.slice KA2 22 cA2, .slice WA2 1 dA2, .slice KB2 22 cB2, .slice WB2 1 dB2, .int .i64 0, .int .i64 0, .int .i64 0, .slice H2 0 hc2, .int .i64 0, .int .i64 0, .int .i64 0, .slice X2 0 xc2, .bool false, .int .i64 0, .int .i64 0, .slice L2 (n + 1) lc2, .slice S2 1 sc2, .int .i64 (n : Nat), .slice O2 1 oc2], .slice none 0 0]) (results_row_tmp rfl _ _ gR 51 #[.slice KA2 22 cA2, .slice WA2 1 dA2, .slice KB2 22 cB2, .slice WB2 1 dB2, .int .i64 0, .int .i64 0, .int .i64 0, .slice H2 0 hc2, .int .i64 0, .int .i64 0, .int .i64 0, .slice X2 0 xc2, .bool false, .int .i64 0, .int .i64 0, .slice L2 (n + 1) lc2, .slice S2 1 sc2, .int .i64 (n : Nat), .slice O2 1 oc2] (0, 0) _ _ rfl (HR_9.out.setRow _) Tryz.underlying51 rfl (by kernel_rfl) rfl) rfl ?_
  exact ⟨KA2, cA2, WA2, dA2, KB2, cB2, WB2, dB2, H2, hc2, X2, xc2, L2, lc2, S2, sc2, O2, oc2, rfl, (HT_9.out.rowFar (g := gR) (Rg.no (by omega)) _).sub (Rg.sub (by omega) (by rw [setRow_size]; omega)), Below.rowFar f9 (g := gR) (by omega) _⟩
set_option maxRecDepth 100000 in
set_option maxHeartbeats 8000000 in
theorem askedOf_owed (KA : Option Addr) (cA : Nat) (WA : Option Addr) (dA : Nat) (KB : Option Addr) (cB : Nat) (WB : Option Addr) (dB : Nat) (H : Option Addr) (hc : Nat) (X : Option Addr) (xc : Nat) (L : Option Addr) (lc : Nat) (S : Option Addr) (sc : Nat) (O : Option Addr) (oc : Nat) (m n ns no D : Nat) (es : List En) (z : List Int) (ea eb now : Int) (w : World) (hG : LgW w KA WA KB WB L S O lc m n ns no es D z) (hD : D < n) (hak : askB 4 (n : Int) 1 ea eb 0 0 = true) (hti : inB now 0 1000000 = true) :
    Calls Tryz.prog 11 #[.agg #[.slice KA 22 cA, .slice WA m dA, .slice KB 22 cB, .slice WB m dB, .int .i64 0, .int .i64 0, .int .i64 0, .slice H 0 hc, .int .i64 0, .int .i64 0, .int .i64 0, .slice X 0 xc, .bool false, .int .i64 0, .int .i64 0, .slice L n lc, .slice S ns sc, .int .i64 (D : Nat), .slice O no oc], .agg #[.int .i64 4, .int .i64 (n : Nat), .int .i64 1, .int .i64 ea, .int .i64 eb, .int .i64 0, .int .i64 0], .int .i64 now] w (RetAsk0 w m n ns no es D z) := by
  have HNN := Lib.hid hG.hn
  have HNS := Lib.hid hG.hs
  have HTI := Lib.hid hti
  have HAK := Lib.hid hak
  have hDi : (D : Int) < (n : Int) := by omega
  clear hti hak
  have HIG : Hid (On (Rg 0 w.heap.size) (fun x => LgW x KA WA KB WB L S O lc m n ns no es D z) w) := Lib.hid (On.below_of (fun _ hb => (hG).below hb))
  clear hG
  go_enter Tryz.func11, Tryz.ntmps11
  go_upto_region 1 with fail
  obtain ⟨v0, hv0⟩ : ∃ x : World, x = (((w.alloc (.cells #[.slice KA 22 cA, .slice WA m dA, .slice KB 22 cB, .slice WB m dB, .int .i64 0, .int .i64 0, .int .i64 0, .slice H 0 hc, .int .i64 0, .int .i64 0, .int .i64 0, .slice X 0 xc, .bool false, .int .i64 0, .int .i64 0, .slice L n lc, .slice S ns sc, .int .i64 (D : Nat), .slice O no oc] 51)).alloc (.cells #[.int .i64 4, .int .i64 (n : Nat), .int .i64 1, .int .i64 ea, .int .i64 eb, .int .i64 0, .int .i64 0] 56)).alloc (.cells #[.slice none 0 0, .slice none 0 0, .slice none 0 0, .slice none 0 0, .int .i64 0, .int .i64 0, .int .i64 0, .slice none 0 0, .int .i64 0, .int .i64 0, .int .i64 0, .slice none 0 0, .bool false, .int .i64 0, .int .i64 0, .slice none 0 0, .slice none 0 0, .int .i64 0, .slice none 0 0] 51)) := ⟨_, rfl⟩
  rw [← hv0]
  have f0 : Below w.heap.size w v0 := by rw [hv0]; (repeat' (first | (with_reducible exact Below.refl _ _) | (with_reducible assumption) | (with_reducible refine Below.alloc ?_ ?_ _) | (with_reducible refine Below.drew ?_) | (with_reducible refine Below.setCell ?_ ?_ _) | (with_reducible refine bstep (by assumption) ?_ ?_) | (with_reducible exact Nat.le_refl _) | omega | (simp [*]; done) | (simp [*]; omega)))
  have z0 : w.heap.size + 3 ≤ v0.heap.size := by rw [hv0]; simp [size_set]
  have HN_0 : Hid (Blk v0 w.heap.size 51 #[.slice KA 22 cA, .slice WA m dA, .slice KB 22 cB, .slice WB m dB, .int .i64 0, .int .i64 0, .int .i64 0, .slice H 0 hc, .int .i64 0, .int .i64 0, .int .i64 0, .slice X 0 xc, .bool false, .int .i64 0, .int .i64 0, .slice L n lc, .slice S ns sc, .int .i64 (D : Nat), .slice O no oc]) := by rw [hv0]; exact Lib.hid ((((Blk.new_at _ _ _ _ (by simp [size_set]))).alloc _).alloc _)
  have HQ_0 : Hid (Blk v0 (w.heap.size + 1) 56 #[.int .i64 4, .int .i64 (n : Nat), .int .i64 1, .int .i64 ea, .int .i64 eb, .int .i64 0, .int .i64 0]) := by rw [hv0]; exact Lib.hid (((Blk.new_at _ _ _ _ (by simp [size_set]))).alloc _)
  have HR_0 : Hid (Blk v0 (w.heap.size + 2) 51 #[.slice none 0 0, .slice none 0 0, .slice none 0 0, .slice none 0 0, .int .i64 0, .int .i64 0, .int .i64 0, .slice none 0 0, .int .i64 0, .int .i64 0, .int .i64 0, .slice none 0 0, .bool false, .int .i64 0, .int .i64 0, .slice none 0 0, .slice none 0 0, .int .i64 0, .slice none 0 0]) := by rw [hv0]; exact Lib.hid ((Blk.new_at _ _ _ _ (by simp [size_set])))
  clear hv0
  obtain ⟨gR, hgR⟩ : ∃ q, q = w.heap.size + 2 := ⟨_, rfl⟩
  rw [← hgR] at HR_0
  try rw [← hgR]
  have lgR : w.heap.size ≤ gR := by omega
  have mgR : gR < v0.heap.size := by omega
  have ngR : ∀ k, w.heap.size ≤ k → k ≠ gR → True := fun _ _ _ => trivial
  clear ngR
  obtain ⟨gQ, hgQ⟩ : ∃ q, q = w.heap.size + 1 := ⟨_, rfl⟩
  rw [← hgQ] at HQ_0
  try rw [← hgQ]
  have lgQ : w.heap.size ≤ gQ := by omega
  have mgQ : gQ < v0.heap.size := by omega
  have ngQ : ∀ k, w.heap.size ≤ k → k ≠ gQ → True := fun _ _ _ => trivial
  clear ngQ
  obtain ⟨gN, hgN⟩ : ∃ q, q = w.heap.size := ⟨_, rfl⟩
  rw [← hgN] at HN_0
  try rw [← hgN]
  have lgN : w.heap.size ≤ gN := by omega
  have mgN : gN < v0.heap.size := by omega
  have ngN : ∀ k, w.heap.size ≤ k → k ≠ gN → True := fun _ _ _ => trivial
  clear ngN
  have nnNQ : gN < gQ := by omega
  have nnNR : gN < gR := by omega
  have nnQR : gQ < gR := by omega
  clear hgN
  clear hgQ
  clear hgR
  go_wp2_with (show wpList _ _ _ (Oper.mk _ (Op.load 51 _) _ _ _ _ :: _) _ _; refine wpList_load_row rfl 51 _ rfl gN rfl 51 #[.slice KA 22 cA, .slice WA m dA, .slice KB 22 cB, .slice WB m dB, .int .i64 0, .int .i64 0, .int .i64 0, .slice H 0 hc, .int .i64 0, .int .i64 0, .int .i64 0, .slice X 0 xc, .bool false, .int .i64 0, .int .i64 0, .slice L n lc, .slice S ns sc, .int .i64 (D : Nat), .slice O no oc] (0, 0) _ HN_0.out Tryz.underlying51 rfl (by kernel_rfl) ?_)
  refine (logOk_yes KA cA WA dA KB cB WB dB H hc X xc L lc S sc O oc m n ns no D es z v0 ((HIG.out).inB f0 (fun _ hk => hk.2)).out).mono ?_
  rintro e v1 ⟨rfl, b1⟩
  have f1 := bthen f0 b1
  have z1 := b1.size
  have HN_1 := Lib.hid (HN_0.out.below b1)
  have HQ_1 := Lib.hid (HQ_0.out.below b1)
  have HR_1 := Lib.hid (HR_0.out.below b1)
  clear HN_0 HQ_0 HR_0
  go_wp2_with (show wpList _ _ _ (Oper.mk _ (Op.load 51 _) _ _ _ _ :: _) _ _; refine wpList_load_row rfl 51 _ rfl gN rfl 51 #[.slice KA 22 cA, .slice WA m dA, .slice KB 22 cB, .slice WB m dB, .int .i64 0, .int .i64 0, .int .i64 0, .slice H 0 hc, .int .i64 0, .int .i64 0, .int .i64 0, .slice X 0 xc, .bool false, .int .i64 0, .int .i64 0, .slice L n lc, .slice S ns sc, .int .i64 (D : Nat), .slice O no oc] (0, 0) _ HN_1.out Tryz.underlying51 rfl (by kernel_rfl) ?_)
  refine (copyLog_yes KA cA WA dA KB cB WB dB H hc X xc L lc S sc O oc m n ns no D es z v1 ((HIG.out).inB f1 (fun _ hk => hk.2)).out).mono ?_
  rintro e v2 ⟨KA', cA', WA', dA', KB', cB', WB', dB', H', hc', X', xc', L', lc', S', sc', O', oc', rfl, hO, hw, b2⟩
  have hOw := Own3.on hw
  clear hw
  have f2 := bthen f1 b2
  have z2 := b2.size
  have HN_2 := Lib.hid (HN_1.out.below b2)
  have HQ_2 := Lib.hid (HQ_1.out.below b2)
  have HR_2 := Lib.hid (HR_1.out.below b2)
  clear HN_1 HQ_1 HR_1
  have HT_2 := Lib.hid (show On (Rg v1.heap.size v2.heap.size) (fun x => LgW x KA' WA' KB' WB' L' S' O' lc' m n ns no es D z) v2 from hO)
  clear hO
  have HW_2 := Lib.hid (show On (Rg v1.heap.size v2.heap.size) (fun x => Own3 x v1.heap.size L' S' O' lc' oc' n no es D) v2 from hOw)
  clear hOw
  go_upto_region 4 with (show wpList _ _ _ (Oper.mk _ (Op.store 51 _ _) _ _ _ _ :: _) _ _; refine wpList_store_new rfl 51 _ _ rfl _ #[.slice KA' 22 cA', .slice WA' m dA', .slice KB' 22 cB', .slice WB' m dB', .int .i64 0, .int .i64 0, .int .i64 0, .slice H' 0 hc', .int .i64 0, .int .i64 0, .int .i64 0, .slice X' 0 xc', .bool false, .int .i64 0, .int .i64 0, .slice L' n lc', .slice S' ns sc', .int .i64 (D : Nat), .slice O' no oc'] #[.slice none 0 0, .slice none 0 0, .slice none 0 0, .slice none 0 0, .int .i64 0, .int .i64 0, .int .i64 0, .slice none 0 0, .int .i64 0, .int .i64 0, .int .i64 0, .slice none 0 0, .bool false, .int .i64 0, .int .i64 0, .slice none 0 0, .slice none 0 0, .int .i64 0, .slice none 0 0] rfl rfl rfl (by kernel_rfl) rfl (by simp [Value.oneCell']) rfl ?_)
  obtain ⟨v3, hv3⟩ : ∃ x : World, x = (v2.alloc (.cells #[.slice KA' 22 cA', .slice WA' m dA', .slice KB' 22 cB', .slice WB' m dB', .int .i64 0, .int .i64 0, .int .i64 0, .slice H' 0 hc', .int .i64 0, .int .i64 0, .int .i64 0, .slice X' 0 xc', .bool false, .int .i64 0, .int .i64 0, .slice L' n lc', .slice S' ns sc', .int .i64 (D : Nat), .slice O' no oc'] 51)) := ⟨_, rfl⟩
  rw [← hv3]
  have f3 : Below w.heap.size w v3 := by rw [hv3]; (repeat' (first | (with_reducible exact Below.refl _ _) | (with_reducible assumption) | (with_reducible refine Below.alloc ?_ ?_ _) | (with_reducible refine Below.drew ?_) | (with_reducible refine Below.setCell ?_ ?_ _) | (with_reducible refine bstep (by assumption) ?_ ?_) | (with_reducible exact Nat.le_refl _) | omega | (simp [*]; done) | (simp [*]; omega)))
  have z3 : v2.heap.size + 1 ≤ v3.heap.size := by rw [hv3]; simp [size_set]
  have HN_3 : Hid (Blk v3 gN 51 #[.slice KA 22 cA, .slice WA m dA, .slice KB 22 cB, .slice WB m dB, .int .i64 0, .int .i64 0, .int .i64 0, .slice H 0 hc, .int .i64 0, .int .i64 0, .int .i64 0, .slice X 0 xc, .bool false, .int .i64 0, .int .i64 0, .slice L n lc, .slice S ns sc, .int .i64 (D : Nat), .slice O no oc]) := by rw [hv3]; exact Lib.hid ((HN_2.out).alloc _)
  have HQ_3 : Hid (Blk v3 gQ 56 #[.int .i64 4, .int .i64 (n : Nat), .int .i64 1, .int .i64 ea, .int .i64 eb, .int .i64 0, .int .i64 0]) := by rw [hv3]; exact Lib.hid ((HQ_2.out).alloc _)
  have HR_3 : Hid (Blk v3 gR 51 #[.slice none 0 0, .slice none 0 0, .slice none 0 0, .slice none 0 0, .int .i64 0, .int .i64 0, .int .i64 0, .slice none 0 0, .int .i64 0, .int .i64 0, .int .i64 0, .slice none 0 0, .bool false, .int .i64 0, .int .i64 0, .slice none 0 0, .slice none 0 0, .int .i64 0, .slice none 0 0]) := by rw [hv3]; exact Lib.hid ((HR_2.out).alloc _)
  have HT_3 : Hid (On (Rg v1.heap.size v2.heap.size) (fun x => LgW x KA' WA' KB' WB' L' S' O' lc' m n ns no es D z) v3) := by rw [hv3]; exact Lib.hid ((HT_2.out).alloc _)
  have HW_3 : Hid (On (Rg v1.heap.size v2.heap.size) (fun x => Own3 x v1.heap.size L' S' O' lc' oc' n no es D) v3) := by rw [hv3]; exact Lib.hid ((HW_2.out).alloc _)
  have HC_3 : Hid (Blk v3 v2.heap.size 51 #[.slice KA' 22 cA', .slice WA' m dA', .slice KB' 22 cB', .slice WB' m dB', .int .i64 0, .int .i64 0, .int .i64 0, .slice H' 0 hc', .int .i64 0, .int .i64 0, .int .i64 0, .slice X' 0 xc', .bool false, .int .i64 0, .int .i64 0, .slice L' n lc', .slice S' ns sc', .int .i64 (D : Nat), .slice O' no oc']) := by rw [hv3]; exact Lib.hid ((Blk.new_at _ _ _ _ (by simp [size_set])))
  clear hv3 HN_2 HQ_2 HR_2 HT_2 HW_2
  obtain ⟨gC, hgC⟩ : ∃ q, q = v2.heap.size := ⟨_, rfl⟩
  rw [← hgC] at HC_3
  try rw [← hgC]
  have lgC : v2.heap.size ≤ gC := by omega
  have mgC : gC < v3.heap.size := by omega
  have ngC : ∀ k, v2.heap.size ≤ k → k ≠ gC → True := fun _ _ _ => trivial
  clear ngC
  clear hgC
  have lt_Q := HQ_3.out.lt
  obtain ⟨r_Q0, r_Q1, r_Q2, r_Q3, r_Q4, r_Q5, r_Q6⟩ := bc7 HQ_3.out
  go_wp2_with fail
  have hcc := askOk_any 4 (n : Nat) 1 ea eb 0 0 v3
  rw [HAK.out] at hcc
  refine (hcc).mono ?_
  rintro e v4 ⟨rfl, b4⟩
  have f4 := bthen f3 b4
  have z4 := b4.size
  have HN_4 := Lib.hid (HN_3.out.below b4)
  have HQ_4 := Lib.hid (HQ_3.out.below b4)
  have HR_4 := Lib.hid (HR_3.out.below b4)
  have HT_4 := Lib.hid (HT_3.out.below b4)
  have HW_4 := Lib.hid (HW_3.out.below b4)
  have HC_4 := Lib.hid (HC_3.out.below b4)
  clear lt_Q r_Q0 r_Q1 r_Q2 r_Q3 r_Q4 r_Q5 r_Q6
  clear HN_3 HQ_3 HR_3 HT_3 HW_3 HC_3
  try clear hcc
  have lt_Q := HQ_4.out.lt
  obtain ⟨r_Q0, r_Q1, r_Q2, r_Q3, r_Q4, r_Q5, r_Q6⟩ := bc7 HQ_4.out
  go_wp2_with fail
  have hcc := timeOk_any now v4
  rw [HTI.out] at hcc
  refine hcc.mono ?_
  clear hcc
  rintro e w' ⟨rfl, rfl⟩
  have lt_N := HN_4.out.lt
  obtain ⟨r_N0, r_N1, r_N2, r_N3, r_N4, r_N5, r_N6, r_N7, r_N8, r_N9, r_N10, r_N11, r_N12, r_N13, r_N14, r_N15, r_N16, r_N17, r_N18⟩ := bc19 HN_4.out
  go_wp2_with fail
  have hcc := markOf_marks S sc es v4 (by rw [← HNS.out]; exact ((HIG.out).inB f4 (fun _ hk => hk.2)).out.s)
  rw [← HNS.out, ← HNN.out] at hcc
  refine hcc.mono ?_
  clear hcc
  rintro e v5 ⟨c0, rfl, b5⟩
  have f5 := bthen f4 b5
  have z5 := b5.size
  have HN_5 := Lib.hid (HN_4.out.below b5)
  have HQ_5 := Lib.hid (HQ_4.out.below b5)
  have HR_5 := Lib.hid (HR_4.out.below b5)
  have HT_5 := Lib.hid (HT_4.out.below b5)
  have HW_5 := Lib.hid (HW_4.out.below b5)
  have HC_5 := Lib.hid (HC_4.out.below b5)
  clear lt_Q r_Q0 r_Q1 r_Q2 r_Q3 r_Q4 r_Q5 r_Q6 lt_N r_N0 r_N1 r_N2 r_N3 r_N4 r_N5 r_N6 r_N7 r_N8 r_N9 r_N10 r_N11 r_N12 r_N13 r_N14 r_N15 r_N16 r_N17 r_N18
  clear HN_4 HQ_4 HR_4 HT_4 HW_4 HC_4
  go_upto_region 7 with fail
  obtain ⟨v6, hv6⟩ : ∃ x : World, x = (v5.alloc (.cells #[.int .i64 c0, .int .i64 (n : Nat), .int .i64 (n : Nat)] 97)) := ⟨_, rfl⟩
  rw [← hv6]
  have f6 : Below w.heap.size w v6 := by rw [hv6]; (repeat' (first | (with_reducible exact Below.refl _ _) | (with_reducible assumption) | (with_reducible refine Below.alloc ?_ ?_ _) | (with_reducible refine Below.drew ?_) | (with_reducible refine Below.setCell ?_ ?_ _) | (with_reducible refine bstep (by assumption) ?_ ?_) | (with_reducible exact Nat.le_refl _) | omega | (simp [*]; done) | (simp [*]; omega)))
  have z6 : v5.heap.size + 1 ≤ v6.heap.size := by rw [hv6]; simp [size_set]
  have HN_6 : Hid (Blk v6 gN 51 #[.slice KA 22 cA, .slice WA m dA, .slice KB 22 cB, .slice WB m dB, .int .i64 0, .int .i64 0, .int .i64 0, .slice H 0 hc, .int .i64 0, .int .i64 0, .int .i64 0, .slice X 0 xc, .bool false, .int .i64 0, .int .i64 0, .slice L n lc, .slice S ns sc, .int .i64 (D : Nat), .slice O no oc]) := by rw [hv6]; exact Lib.hid ((HN_5.out).alloc _)
  have HQ_6 : Hid (Blk v6 gQ 56 #[.int .i64 4, .int .i64 (n : Nat), .int .i64 1, .int .i64 ea, .int .i64 eb, .int .i64 0, .int .i64 0]) := by rw [hv6]; exact Lib.hid ((HQ_5.out).alloc _)
  have HR_6 : Hid (Blk v6 gR 51 #[.slice none 0 0, .slice none 0 0, .slice none 0 0, .slice none 0 0, .int .i64 0, .int .i64 0, .int .i64 0, .slice none 0 0, .int .i64 0, .int .i64 0, .int .i64 0, .slice none 0 0, .bool false, .int .i64 0, .int .i64 0, .slice none 0 0, .slice none 0 0, .int .i64 0, .slice none 0 0]) := by rw [hv6]; exact Lib.hid ((HR_5.out).alloc _)
  have HT_6 : Hid (On (Rg v1.heap.size v2.heap.size) (fun x => LgW x KA' WA' KB' WB' L' S' O' lc' m n ns no es D z) v6) := by rw [hv6]; exact Lib.hid ((HT_5.out).alloc _)
  have HW_6 : Hid (On (Rg v1.heap.size v2.heap.size) (fun x => Own3 x v1.heap.size L' S' O' lc' oc' n no es D) v6) := by rw [hv6]; exact Lib.hid ((HW_5.out).alloc _)
  have HC_6 : Hid (Blk v6 gC 51 #[.slice KA' 22 cA', .slice WA' m dA', .slice KB' 22 cB', .slice WB' m dB', .int .i64 0, .int .i64 0, .int .i64 0, .slice H' 0 hc', .int .i64 0, .int .i64 0, .int .i64 0, .slice X' 0 xc', .bool false, .int .i64 0, .int .i64 0, .slice L' n lc', .slice S' ns sc', .int .i64 (D : Nat), .slice O' no oc']) := by rw [hv6]; exact Lib.hid ((HC_5.out).alloc _)
  have HM_6 : Hid (Blk v6 v5.heap.size 97 #[.int .i64 c0, .int .i64 (n : Nat), .int .i64 (n : Nat)]) := by rw [hv6]; exact Lib.hid ((Blk.new_at _ _ _ _ (by simp [size_set])))
  clear hv6 HN_5 HQ_5 HR_5 HT_5 HW_5 HC_5
  obtain ⟨gM, hgM⟩ : ∃ q, q = v5.heap.size := ⟨_, rfl⟩
  rw [← hgM] at HM_6
  try rw [← hgM]
  have lgM : v5.heap.size ≤ gM := by omega
  have mgM : gM < v6.heap.size := by omega
  have ngM : ∀ k, v5.heap.size ≤ k → k ≠ gM → True := fun _ _ _ => trivial
  clear ngM
  clear hgM
  have lt_Q := HQ_6.out.lt
  obtain ⟨r_Q0, r_Q1, r_Q2, r_Q3, r_Q4, r_Q5, r_Q6⟩ := bc7 HQ_6.out
  have lt_M := HM_6.out.lt
  obtain ⟨r_M0, r_M1, r_M2⟩ := bc3 HM_6.out
  have r_N17 : v6.cell? ⟨gN, 17, none⟩ = some (.int .i64 (D : Nat)) := HN_6.out.cell 17
  have ltN := HN_6.out.lt
  go_wp2_with (first | (show wpList _ _ _ (Oper.mk _ (Op.load 51 _) _ _ _ _ :: _) _ _; refine wpList_load_row rfl 51 _ rfl gC rfl 51 #[.slice KA' 22 cA', .slice WA' m dA', .slice KB' 22 cB', .slice WB' m dB', .int .i64 0, .int .i64 0, .int .i64 0, .slice H' 0 hc', .int .i64 0, .int .i64 0, .int .i64 0, .slice X' 0 xc', .bool false, .int .i64 0, .int .i64 0, .slice L' n lc', .slice S' ns sc', .int .i64 (D : Nat), .slice O' no oc'] (0, 0) _ HC_6.out Tryz.underlying51 rfl (by kernel_rfl) ?_) | (show wpList _ _ _ (Oper.mk _ (Op.store _ _ _) _ _ _ _ :: _) _ _; refine wpList_store_row rfl 51 _ _ rfl gR #[.slice KA' 22 cA', .slice WA' m dA', .slice KB' 22 cB', .slice WB' m dB', .int .i64 0, .int .i64 0, .int .i64 0, .slice H' 0 hc', .int .i64 0, .int .i64 0, .int .i64 0, .slice X' 0 xc', .bool false, .int .i64 0, .int .i64 0, .slice L' n lc', .slice S' ns sc', .int .i64 (D : Nat), .slice O' no oc'] rfl rfl 51 #[.slice none 0 0, .slice none 0 0, .slice none 0 0, .slice none 0 0, .int .i64 0, .int .i64 0, .int .i64 0, .slice none 0 0, .int .i64 0, .int .i64 0, .int .i64 0, .slice none 0 0, .bool false, .int .i64 0, .int .i64 0, .slice none 0 0, .slice none 0 0, .int .i64 0, .slice none 0 0] HR_6.out (by kernel_rfl) rfl (by simp [Value.oneCell']) ?_))
  go_wp21
  refine bodyPost_ret (v := .tuple #[.agg #[.slice KA' 22 cA', .slice WA' m dA', .slice KB' 22 cB', .slice WB' m dB', .int .i64 0, .int .i64 0, .int .i64 0, .slice H' 0 hc', .int .i64 0, .int .i64 0, .int .i64 0, .slice X' 0 xc', .bool false, .int .i64 0, .int .i64 0, .slice L' n lc', .slice S' ns sc', .int .i64 (D : Nat), .slice O' no oc'], .slice none 0 0]) (results_row_tmp rfl _ _ gR 51 #[.slice KA' 22 cA', .slice WA' m dA', .slice KB' 22 cB', .slice WB' m dB', .int .i64 0, .int .i64 0, .int .i64 0, .slice H' 0 hc', .int .i64 0, .int .i64 0, .int .i64 0, .slice X' 0 xc', .bool false, .int .i64 0, .int .i64 0, .slice L' n lc', .slice S' ns sc', .int .i64 (D : Nat), .slice O' no oc'] (0, 0) _ _ rfl (HR_6.out.setRow _) Tryz.underlying51 rfl (by kernel_rfl) rfl) rfl ?_
  exact ⟨KA', cA', WA', dA', KB', cB', WB', dB', H', hc', X', xc', L', lc', S', sc', O', oc', rfl, (HT_6.out.rowFar (g := gR) (Rg.no (by omega)) _).sub (Rg.sub (by omega) (by rw [setRow_size]; omega)), Below.rowFar f6 (g := gR) (by omega) _⟩
set_option maxRecDepth 100000 in
set_option maxHeartbeats 8000000 in
theorem askedOf_done (KA : Option Addr) (cA : Nat) (WA : Option Addr) (dA : Nat) (KB : Option Addr) (cB : Nat) (WB : Option Addr) (dB : Nat) (H : Option Addr) (hc : Nat) (X : Option Addr) (xc : Nat) (L : Option Addr) (lc : Nat) (S : Option Addr) (sc : Nat) (O : Option Addr) (oc : Nat) (n ns no : Nat) (es : List En) (z : List Int) (ea eb now : Int) (w : World) (hG : LgW w KA WA KB WB L S O lc 0 n ns no es n z) (hak : askB 4 (n : Int) 1 ea eb 0 0 = true) (hti : inB now 0 1000000 = true) :
    Calls Tryz.prog 11 #[.agg #[.slice KA 22 cA, .slice WA 0 dA, .slice KB 22 cB, .slice WB 0 dB, .int .i64 0, .int .i64 0, .int .i64 0, .slice H 0 hc, .int .i64 0, .int .i64 0, .int .i64 0, .slice X 0 xc, .bool false, .int .i64 0, .int .i64 0, .slice L n lc, .slice S ns sc, .int .i64 (n : Nat), .slice O no oc], .agg #[.int .i64 4, .int .i64 (n : Nat), .int .i64 1, .int .i64 ea, .int .i64 eb, .int .i64 0, .int .i64 0], .int .i64 now] w (RetAsk1 w n ns no es z) := by
  have HNN := Lib.hid hG.hn
  have HNS := Lib.hid hG.hs
  have HTI := Lib.hid hti
  have HAK := Lib.hid hak
  clear hti hak
  have HIG : Hid (On (Rg 0 w.heap.size) (fun x => LgW x KA WA KB WB L S O lc 0 n ns no es n z) w) := Lib.hid (On.below_of (fun _ hb => (hG).below hb))
  clear hG
  go_enter Tryz.func11, Tryz.ntmps11
  go_upto_region 1 with fail
  obtain ⟨v0, hv0⟩ : ∃ x : World, x = (((w.alloc (.cells #[.slice KA 22 cA, .slice WA 0 dA, .slice KB 22 cB, .slice WB 0 dB, .int .i64 0, .int .i64 0, .int .i64 0, .slice H 0 hc, .int .i64 0, .int .i64 0, .int .i64 0, .slice X 0 xc, .bool false, .int .i64 0, .int .i64 0, .slice L n lc, .slice S ns sc, .int .i64 (n : Nat), .slice O no oc] 51)).alloc (.cells #[.int .i64 4, .int .i64 (n : Nat), .int .i64 1, .int .i64 ea, .int .i64 eb, .int .i64 0, .int .i64 0] 56)).alloc (.cells #[.slice none 0 0, .slice none 0 0, .slice none 0 0, .slice none 0 0, .int .i64 0, .int .i64 0, .int .i64 0, .slice none 0 0, .int .i64 0, .int .i64 0, .int .i64 0, .slice none 0 0, .bool false, .int .i64 0, .int .i64 0, .slice none 0 0, .slice none 0 0, .int .i64 0, .slice none 0 0] 51)) := ⟨_, rfl⟩
  rw [← hv0]
  have f0 : Below w.heap.size w v0 := by rw [hv0]; (repeat' (first | (with_reducible exact Below.refl _ _) | (with_reducible assumption) | (with_reducible refine Below.alloc ?_ ?_ _) | (with_reducible refine Below.drew ?_) | (with_reducible refine Below.setCell ?_ ?_ _) | (with_reducible refine bstep (by assumption) ?_ ?_) | (with_reducible exact Nat.le_refl _) | omega | (simp [*]; done) | (simp [*]; omega)))
  have z0 : w.heap.size + 3 ≤ v0.heap.size := by rw [hv0]; simp [size_set]
  have HN_0 : Hid (Blk v0 w.heap.size 51 #[.slice KA 22 cA, .slice WA 0 dA, .slice KB 22 cB, .slice WB 0 dB, .int .i64 0, .int .i64 0, .int .i64 0, .slice H 0 hc, .int .i64 0, .int .i64 0, .int .i64 0, .slice X 0 xc, .bool false, .int .i64 0, .int .i64 0, .slice L n lc, .slice S ns sc, .int .i64 (n : Nat), .slice O no oc]) := by rw [hv0]; exact Lib.hid ((((Blk.new_at _ _ _ _ (by simp [size_set]))).alloc _).alloc _)
  have HQ_0 : Hid (Blk v0 (w.heap.size + 1) 56 #[.int .i64 4, .int .i64 (n : Nat), .int .i64 1, .int .i64 ea, .int .i64 eb, .int .i64 0, .int .i64 0]) := by rw [hv0]; exact Lib.hid (((Blk.new_at _ _ _ _ (by simp [size_set]))).alloc _)
  have HR_0 : Hid (Blk v0 (w.heap.size + 2) 51 #[.slice none 0 0, .slice none 0 0, .slice none 0 0, .slice none 0 0, .int .i64 0, .int .i64 0, .int .i64 0, .slice none 0 0, .int .i64 0, .int .i64 0, .int .i64 0, .slice none 0 0, .bool false, .int .i64 0, .int .i64 0, .slice none 0 0, .slice none 0 0, .int .i64 0, .slice none 0 0]) := by rw [hv0]; exact Lib.hid ((Blk.new_at _ _ _ _ (by simp [size_set])))
  clear hv0
  obtain ⟨gR, hgR⟩ : ∃ q, q = w.heap.size + 2 := ⟨_, rfl⟩
  rw [← hgR] at HR_0
  try rw [← hgR]
  have lgR : w.heap.size ≤ gR := by omega
  have mgR : gR < v0.heap.size := by omega
  have ngR : ∀ k, w.heap.size ≤ k → k ≠ gR → True := fun _ _ _ => trivial
  clear ngR
  obtain ⟨gQ, hgQ⟩ : ∃ q, q = w.heap.size + 1 := ⟨_, rfl⟩
  rw [← hgQ] at HQ_0
  try rw [← hgQ]
  have lgQ : w.heap.size ≤ gQ := by omega
  have mgQ : gQ < v0.heap.size := by omega
  have ngQ : ∀ k, w.heap.size ≤ k → k ≠ gQ → True := fun _ _ _ => trivial
  clear ngQ
  obtain ⟨gN, hgN⟩ : ∃ q, q = w.heap.size := ⟨_, rfl⟩
  rw [← hgN] at HN_0
  try rw [← hgN]
  have lgN : w.heap.size ≤ gN := by omega
  have mgN : gN < v0.heap.size := by omega
  have ngN : ∀ k, w.heap.size ≤ k → k ≠ gN → True := fun _ _ _ => trivial
  clear ngN
  have nnNQ : gN < gQ := by omega
  have nnNR : gN < gR := by omega
  have nnQR : gQ < gR := by omega
  clear hgN
  clear hgQ
  clear hgR
  go_wp2_with (show wpList _ _ _ (Oper.mk _ (Op.load 51 _) _ _ _ _ :: _) _ _; refine wpList_load_row rfl 51 _ rfl gN rfl 51 #[.slice KA 22 cA, .slice WA 0 dA, .slice KB 22 cB, .slice WB 0 dB, .int .i64 0, .int .i64 0, .int .i64 0, .slice H 0 hc, .int .i64 0, .int .i64 0, .int .i64 0, .slice X 0 xc, .bool false, .int .i64 0, .int .i64 0, .slice L n lc, .slice S ns sc, .int .i64 (n : Nat), .slice O no oc] (0, 0) _ HN_0.out Tryz.underlying51 rfl (by kernel_rfl) ?_)
  refine (logOk_yes KA cA WA dA KB cB WB dB H hc X xc L lc S sc O oc 0 n ns no n es z v0 ((HIG.out).inB f0 (fun _ hk => hk.2)).out).mono ?_
  rintro e v1 ⟨rfl, b1⟩
  have f1 := bthen f0 b1
  have z1 := b1.size
  have HN_1 := Lib.hid (HN_0.out.below b1)
  have HQ_1 := Lib.hid (HQ_0.out.below b1)
  have HR_1 := Lib.hid (HR_0.out.below b1)
  clear HN_0 HQ_0 HR_0
  go_wp2_with (show wpList _ _ _ (Oper.mk _ (Op.load 51 _) _ _ _ _ :: _) _ _; refine wpList_load_row rfl 51 _ rfl gN rfl 51 #[.slice KA 22 cA, .slice WA 0 dA, .slice KB 22 cB, .slice WB 0 dB, .int .i64 0, .int .i64 0, .int .i64 0, .slice H 0 hc, .int .i64 0, .int .i64 0, .int .i64 0, .slice X 0 xc, .bool false, .int .i64 0, .int .i64 0, .slice L n lc, .slice S ns sc, .int .i64 (n : Nat), .slice O no oc] (0, 0) _ HN_1.out Tryz.underlying51 rfl (by kernel_rfl) ?_)
  refine (copyLog_yes KA cA WA dA KB cB WB dB H hc X xc L lc S sc O oc 0 n ns no n es z v1 ((HIG.out).inB f1 (fun _ hk => hk.2)).out).mono ?_
  rintro e v2 ⟨KA', cA', WA', dA', KB', cB', WB', dB', H', hc', X', xc', L', lc', S', sc', O', oc', rfl, hO, hw, b2⟩
  have hOw := Own3.on hw
  clear hw
  have f2 := bthen f1 b2
  have z2 := b2.size
  have HN_2 := Lib.hid (HN_1.out.below b2)
  have HQ_2 := Lib.hid (HQ_1.out.below b2)
  have HR_2 := Lib.hid (HR_1.out.below b2)
  clear HN_1 HQ_1 HR_1
  have HT_2 := Lib.hid (show On (Rg v1.heap.size v2.heap.size) (fun x => LgW x KA' WA' KB' WB' L' S' O' lc' 0 n ns no es n z) v2 from hO)
  clear hO
  have HW_2 := Lib.hid (show On (Rg v1.heap.size v2.heap.size) (fun x => Own3 x v1.heap.size L' S' O' lc' oc' n no es n) v2 from hOw)
  clear hOw
  go_upto_region 4 with (show wpList _ _ _ (Oper.mk _ (Op.store 51 _ _) _ _ _ _ :: _) _ _; refine wpList_store_new rfl 51 _ _ rfl _ #[.slice KA' 22 cA', .slice WA' 0 dA', .slice KB' 22 cB', .slice WB' 0 dB', .int .i64 0, .int .i64 0, .int .i64 0, .slice H' 0 hc', .int .i64 0, .int .i64 0, .int .i64 0, .slice X' 0 xc', .bool false, .int .i64 0, .int .i64 0, .slice L' n lc', .slice S' ns sc', .int .i64 (n : Nat), .slice O' no oc'] #[.slice none 0 0, .slice none 0 0, .slice none 0 0, .slice none 0 0, .int .i64 0, .int .i64 0, .int .i64 0, .slice none 0 0, .int .i64 0, .int .i64 0, .int .i64 0, .slice none 0 0, .bool false, .int .i64 0, .int .i64 0, .slice none 0 0, .slice none 0 0, .int .i64 0, .slice none 0 0] rfl rfl rfl (by kernel_rfl) rfl (by simp [Value.oneCell']) rfl ?_)
  obtain ⟨v3, hv3⟩ : ∃ x : World, x = (v2.alloc (.cells #[.slice KA' 22 cA', .slice WA' 0 dA', .slice KB' 22 cB', .slice WB' 0 dB', .int .i64 0, .int .i64 0, .int .i64 0, .slice H' 0 hc', .int .i64 0, .int .i64 0, .int .i64 0, .slice X' 0 xc', .bool false, .int .i64 0, .int .i64 0, .slice L' n lc', .slice S' ns sc', .int .i64 (n : Nat), .slice O' no oc'] 51)) := ⟨_, rfl⟩
  rw [← hv3]
  have f3 : Below w.heap.size w v3 := by rw [hv3]; (repeat' (first | (with_reducible exact Below.refl _ _) | (with_reducible assumption) | (with_reducible refine Below.alloc ?_ ?_ _) | (with_reducible refine Below.drew ?_) | (with_reducible refine Below.setCell ?_ ?_ _) | (with_reducible refine bstep (by assumption) ?_ ?_) | (with_reducible exact Nat.le_refl _) | omega | (simp [*]; done) | (simp [*]; omega)))
  have z3 : v2.heap.size + 1 ≤ v3.heap.size := by rw [hv3]; simp [size_set]
  have HN_3 : Hid (Blk v3 gN 51 #[.slice KA 22 cA, .slice WA 0 dA, .slice KB 22 cB, .slice WB 0 dB, .int .i64 0, .int .i64 0, .int .i64 0, .slice H 0 hc, .int .i64 0, .int .i64 0, .int .i64 0, .slice X 0 xc, .bool false, .int .i64 0, .int .i64 0, .slice L n lc, .slice S ns sc, .int .i64 (n : Nat), .slice O no oc]) := by rw [hv3]; exact Lib.hid ((HN_2.out).alloc _)
  have HQ_3 : Hid (Blk v3 gQ 56 #[.int .i64 4, .int .i64 (n : Nat), .int .i64 1, .int .i64 ea, .int .i64 eb, .int .i64 0, .int .i64 0]) := by rw [hv3]; exact Lib.hid ((HQ_2.out).alloc _)
  have HR_3 : Hid (Blk v3 gR 51 #[.slice none 0 0, .slice none 0 0, .slice none 0 0, .slice none 0 0, .int .i64 0, .int .i64 0, .int .i64 0, .slice none 0 0, .int .i64 0, .int .i64 0, .int .i64 0, .slice none 0 0, .bool false, .int .i64 0, .int .i64 0, .slice none 0 0, .slice none 0 0, .int .i64 0, .slice none 0 0]) := by rw [hv3]; exact Lib.hid ((HR_2.out).alloc _)
  have HT_3 : Hid (On (Rg v1.heap.size v2.heap.size) (fun x => LgW x KA' WA' KB' WB' L' S' O' lc' 0 n ns no es n z) v3) := by rw [hv3]; exact Lib.hid ((HT_2.out).alloc _)
  have HW_3 : Hid (On (Rg v1.heap.size v2.heap.size) (fun x => Own3 x v1.heap.size L' S' O' lc' oc' n no es n) v3) := by rw [hv3]; exact Lib.hid ((HW_2.out).alloc _)
  have HC_3 : Hid (Blk v3 v2.heap.size 51 #[.slice KA' 22 cA', .slice WA' 0 dA', .slice KB' 22 cB', .slice WB' 0 dB', .int .i64 0, .int .i64 0, .int .i64 0, .slice H' 0 hc', .int .i64 0, .int .i64 0, .int .i64 0, .slice X' 0 xc', .bool false, .int .i64 0, .int .i64 0, .slice L' n lc', .slice S' ns sc', .int .i64 (n : Nat), .slice O' no oc']) := by rw [hv3]; exact Lib.hid ((Blk.new_at _ _ _ _ (by simp [size_set])))
  clear hv3 HN_2 HQ_2 HR_2 HT_2 HW_2
  obtain ⟨gC, hgC⟩ : ∃ q, q = v2.heap.size := ⟨_, rfl⟩
  rw [← hgC] at HC_3
  try rw [← hgC]
  have lgC : v2.heap.size ≤ gC := by omega
  have mgC : gC < v3.heap.size := by omega
  have ngC : ∀ k, v2.heap.size ≤ k → k ≠ gC → True := fun _ _ _ => trivial
  clear ngC
  clear hgC
  have lt_Q := HQ_3.out.lt
  obtain ⟨r_Q0, r_Q1, r_Q2, r_Q3, r_Q4, r_Q5, r_Q6⟩ := bc7 HQ_3.out
  go_wp2_with fail
  have hcc := askOk_any 4 (n : Nat) 1 ea eb 0 0 v3
  rw [HAK.out] at hcc
  refine (hcc).mono ?_
  rintro e v4 ⟨rfl, b4⟩
  have f4 := bthen f3 b4
  have z4 := b4.size
  have HN_4 := Lib.hid (HN_3.out.below b4)
  have HQ_4 := Lib.hid (HQ_3.out.below b4)
  have HR_4 := Lib.hid (HR_3.out.below b4)
  have HT_4 := Lib.hid (HT_3.out.below b4)
  have HW_4 := Lib.hid (HW_3.out.below b4)
  have HC_4 := Lib.hid (HC_3.out.below b4)
  clear lt_Q r_Q0 r_Q1 r_Q2 r_Q3 r_Q4 r_Q5 r_Q6
  clear HN_3 HQ_3 HR_3 HT_3 HW_3 HC_3
  try clear hcc
  have lt_Q := HQ_4.out.lt
  obtain ⟨r_Q0, r_Q1, r_Q2, r_Q3, r_Q4, r_Q5, r_Q6⟩ := bc7 HQ_4.out
  go_wp2_with fail
  have hcc := timeOk_any now v4
  rw [HTI.out] at hcc
  refine hcc.mono ?_
  clear hcc
  rintro e w' ⟨rfl, rfl⟩
  have lt_N := HN_4.out.lt
  obtain ⟨r_N0, r_N1, r_N2, r_N3, r_N4, r_N5, r_N6, r_N7, r_N8, r_N9, r_N10, r_N11, r_N12, r_N13, r_N14, r_N15, r_N16, r_N17, r_N18⟩ := bc19 HN_4.out
  go_wp2_with fail
  have hcc := markOf_marks S sc es v4 (by rw [← HNS.out]; exact ((HIG.out).inB f4 (fun _ hk => hk.2)).out.s)
  rw [← HNS.out, ← HNN.out] at hcc
  refine hcc.mono ?_
  clear hcc
  rintro e v5 ⟨c0, rfl, b5⟩
  have f5 := bthen f4 b5
  have z5 := b5.size
  have HN_5 := Lib.hid (HN_4.out.below b5)
  have HQ_5 := Lib.hid (HQ_4.out.below b5)
  have HR_5 := Lib.hid (HR_4.out.below b5)
  have HT_5 := Lib.hid (HT_4.out.below b5)
  have HW_5 := Lib.hid (HW_4.out.below b5)
  have HC_5 := Lib.hid (HC_4.out.below b5)
  clear lt_Q r_Q0 r_Q1 r_Q2 r_Q3 r_Q4 r_Q5 r_Q6 lt_N r_N0 r_N1 r_N2 r_N3 r_N4 r_N5 r_N6 r_N7 r_N8 r_N9 r_N10 r_N11 r_N12 r_N13 r_N14 r_N15 r_N16 r_N17 r_N18
  clear HN_4 HQ_4 HR_4 HT_4 HW_4 HC_4
  go_upto_region 7 with fail
  obtain ⟨v6, hv6⟩ : ∃ x : World, x = (v5.alloc (.cells #[.int .i64 c0, .int .i64 (n : Nat), .int .i64 (n : Nat)] 97)) := ⟨_, rfl⟩
  rw [← hv6]
  have f6 : Below w.heap.size w v6 := by rw [hv6]; (repeat' (first | (with_reducible exact Below.refl _ _) | (with_reducible assumption) | (with_reducible refine Below.alloc ?_ ?_ _) | (with_reducible refine Below.drew ?_) | (with_reducible refine Below.setCell ?_ ?_ _) | (with_reducible refine bstep (by assumption) ?_ ?_) | (with_reducible exact Nat.le_refl _) | omega | (simp [*]; done) | (simp [*]; omega)))
  have z6 : v5.heap.size + 1 ≤ v6.heap.size := by rw [hv6]; simp [size_set]
  have HN_6 : Hid (Blk v6 gN 51 #[.slice KA 22 cA, .slice WA 0 dA, .slice KB 22 cB, .slice WB 0 dB, .int .i64 0, .int .i64 0, .int .i64 0, .slice H 0 hc, .int .i64 0, .int .i64 0, .int .i64 0, .slice X 0 xc, .bool false, .int .i64 0, .int .i64 0, .slice L n lc, .slice S ns sc, .int .i64 (n : Nat), .slice O no oc]) := by rw [hv6]; exact Lib.hid ((HN_5.out).alloc _)
  have HQ_6 : Hid (Blk v6 gQ 56 #[.int .i64 4, .int .i64 (n : Nat), .int .i64 1, .int .i64 ea, .int .i64 eb, .int .i64 0, .int .i64 0]) := by rw [hv6]; exact Lib.hid ((HQ_5.out).alloc _)
  have HR_6 : Hid (Blk v6 gR 51 #[.slice none 0 0, .slice none 0 0, .slice none 0 0, .slice none 0 0, .int .i64 0, .int .i64 0, .int .i64 0, .slice none 0 0, .int .i64 0, .int .i64 0, .int .i64 0, .slice none 0 0, .bool false, .int .i64 0, .int .i64 0, .slice none 0 0, .slice none 0 0, .int .i64 0, .slice none 0 0]) := by rw [hv6]; exact Lib.hid ((HR_5.out).alloc _)
  have HT_6 : Hid (On (Rg v1.heap.size v2.heap.size) (fun x => LgW x KA' WA' KB' WB' L' S' O' lc' 0 n ns no es n z) v6) := by rw [hv6]; exact Lib.hid ((HT_5.out).alloc _)
  have HW_6 : Hid (On (Rg v1.heap.size v2.heap.size) (fun x => Own3 x v1.heap.size L' S' O' lc' oc' n no es n) v6) := by rw [hv6]; exact Lib.hid ((HW_5.out).alloc _)
  have HC_6 : Hid (Blk v6 gC 51 #[.slice KA' 22 cA', .slice WA' 0 dA', .slice KB' 22 cB', .slice WB' 0 dB', .int .i64 0, .int .i64 0, .int .i64 0, .slice H' 0 hc', .int .i64 0, .int .i64 0, .int .i64 0, .slice X' 0 xc', .bool false, .int .i64 0, .int .i64 0, .slice L' n lc', .slice S' ns sc', .int .i64 (n : Nat), .slice O' no oc']) := by rw [hv6]; exact Lib.hid ((HC_5.out).alloc _)
  have HM_6 : Hid (Blk v6 v5.heap.size 97 #[.int .i64 c0, .int .i64 (n : Nat), .int .i64 (n : Nat)]) := by rw [hv6]; exact Lib.hid ((Blk.new_at _ _ _ _ (by simp [size_set])))
  clear hv6 HN_5 HQ_5 HR_5 HT_5 HW_5 HC_5
  obtain ⟨gM, hgM⟩ : ∃ q, q = v5.heap.size := ⟨_, rfl⟩
  rw [← hgM] at HM_6
  try rw [← hgM]
  have lgM : v5.heap.size ≤ gM := by omega
  have mgM : gM < v6.heap.size := by omega
  have ngM : ∀ k, v5.heap.size ≤ k → k ≠ gM → True := fun _ _ _ => trivial
  clear ngM
  clear hgM
  have lt_Q := HQ_6.out.lt
  obtain ⟨r_Q0, r_Q1, r_Q2, r_Q3, r_Q4, r_Q5, r_Q6⟩ := bc7 HQ_6.out
  have lt_M := HM_6.out.lt
  obtain ⟨r_M0, r_M1, r_M2⟩ := bc3 HM_6.out
  have r_N17 : v6.cell? ⟨gN, 17, none⟩ = some (.int .i64 (n : Nat)) := HN_6.out.cell 17
  have ltN := HN_6.out.lt
  go_upto_region 16 with fail
  clear lt_Q r_Q0 r_Q1 r_Q2 r_Q3 r_Q4 r_Q5 r_Q6 lt_M r_M0 r_M1 r_M2
  clear r_N17 ltN
  refine wp_region_held_drew (S := fun w' => Blk w' gC 51 #[.slice KA' 22 cA', .slice WA' 0 dA', .slice KB' 22 cB', .slice WB' 0 dB', .int .i64 0, .int .i64 0, .int .i64 0, .slice H' 0 hc', .int .i64 0, .int .i64 0, .int .i64 0, .slice X' 0 xc', .bool false, .int .i64 0, .int .i64 0, .slice L' n lc', .slice S' ns sc', .int .i64 (n : Nat), .slice O' no oc'] ∧ Blk w' gQ 56 #[.int .i64 4, .int .i64 (n : Nat), .int .i64 1, .int .i64 ea, .int .i64 eb, .int .i64 0, .int .i64 0] ∧ Blk w' gM 97 #[.int .i64 c0, .int .i64 (n : Nat), .int .i64 (n : Nat)]) (by kernel_rfl) ⟨HC_6.out.drew, HQ_6.out.drew, HM_6.out.drew⟩ (fun hS => ?_)
  obtain ⟨u0, hu0⟩ : ∃ x : World, x = v6.drew := ⟨_, rfl⟩
  rw [← hu0] at hS ⊢
  have HRu : Blk u0 gR 51 #[.slice none 0 0, .slice none 0 0, .slice none 0 0, .slice none 0 0, .int .i64 0, .int .i64 0, .int .i64 0, .slice none 0 0, .int .i64 0, .int .i64 0, .int .i64 0, .slice none 0 0, .bool false, .int .i64 0, .int .i64 0, .slice none 0 0, .slice none 0 0, .int .i64 0, .slice none 0 0] := by rw [hu0]; exact HR_6.out.drew
  have HTu : On (Rg v1.heap.size v2.heap.size) (fun x => LgW x KA' WA' KB' WB' L' S' O' lc' 0 n ns no es n z) u0 := by rw [hu0]; exact HT_6.out.drew
  have fu : Below w.heap.size w u0 := by rw [hu0]; exact Below.drew f6
  have z6 : v6.heap.size ≤ u0.heap.size := by rw [hu0]; exact Nat.le_refl _
  clear hu0
  refine wpAnyH_take (i := 0) (oi := _) (v := _) rfl (by kernel_rfl) (by kernel_rfl) (by kernel_rfl) (fun _ _ _ h => h) (yieldsIf_load_mid (by rfl) 51 (.tmp 8) rfl gC 0 rfl [.slice KA' 22 cA', .slice WA' 0 dA', .slice KB' 22 cB', .slice WB' 0 dB', .int .i64 0, .int .i64 0, .int .i64 0, .slice H' 0 hc', .int .i64 0, .int .i64 0, .int .i64 0, .slice X' 0 xc', .bool false, .int .i64 0, .int .i64 0, .slice L' n lc', .slice S' ns sc', .int .i64 (n : Nat), .slice O' no oc'] _ (fun w' h => blk_range h.1 _ rfl) Tryz.underlying51 rfl (by kernel_rfl)) hS ?_
  change wpAnyH _ _ _ _ _ _ _ (Act.put _ (some 77) _) _
  simp only [Act.put, List.setIfInBounds_toArray, List.set_cons_zero, List.set_cons_succ]
  refine wpAnyH_take (i := 1) (oi := _) (v := ?_) rfl (by kernel_rfl) (by kernel_rfl) (by kernel_rfl) (fun _ _ _ h => h) (Or.inl ⟨by rfl, ?_⟩) hS ?_
  rotate_left 1
  · intro w hSw; clear hSw; (go_simp <;> with_reducible rfl)
  change wpAnyH _ _ _ _ _ _ _ (Act.put _ (some 78) _) _
  simp only [Act.put, List.setIfInBounds_toArray, List.set_cons_zero, List.set_cons_succ]
  refine wpAnyH_take (i := 2) (oi := _) (v := .int .i64 4) rfl (by kernel_rfl) (by kernel_rfl) (by kernel_rfl) (fun _ _ _ h => h) (Or.inl ⟨by rfl, fun w' h => by have c : w'.cell? ⟨gQ, 0, none⟩ = some (.int .i64 4) := Blk.cell h.2.1 0; clear h; go_simp⟩) hS ?_
  change wpAnyH _ _ _ _ _ _ _ (Act.put _ (some 79) _) _
  simp only [Act.put, List.setIfInBounds_toArray, List.set_cons_zero, List.set_cons_succ]
  refine wpAnyH_take (i := 3) (oi := _) (v := ?_) rfl (by kernel_rfl) (by kernel_rfl) (by kernel_rfl) (fun _ _ _ h => h) (Or.inl ⟨by rfl, ?_⟩) hS ?_
  rotate_left 1
  · intro w hSw; clear hSw; (go_simp <;> with_reducible rfl)
  change wpAnyH _ _ _ _ _ _ _ (Act.put _ (some 80) _) _
  simp only [Act.put, List.setIfInBounds_toArray, List.set_cons_zero, List.set_cons_succ]
  refine wpAnyH_take (i := 4) (oi := _) (v := .int .i64 (n : Nat)) rfl (by kernel_rfl) (by kernel_rfl) (by kernel_rfl) (fun _ _ _ h => h) (Or.inl ⟨by rfl, fun w' h => by have c : w'.cell? ⟨gQ, 1, none⟩ = some (.int .i64 (n : Nat)) := Blk.cell h.2.1 1; clear h; go_simp⟩) hS ?_
  change wpAnyH _ _ _ _ _ _ _ (Act.put _ (some 81) _) _
  simp only [Act.put, List.setIfInBounds_toArray, List.set_cons_zero, List.set_cons_succ]
  refine wpAnyH_take (i := 5) (oi := _) (v := ?_) rfl (by kernel_rfl) (by kernel_rfl) (by kernel_rfl) (fun _ _ _ h => h) (Or.inl ⟨by rfl, ?_⟩) hS ?_
  rotate_left 1
  · intro w hSw; clear hSw; (go_simp <;> with_reducible rfl)
  change wpAnyH _ _ _ _ _ _ _ (Act.put _ (some 82) _) _
  simp only [Act.put, List.setIfInBounds_toArray, List.set_cons_zero, List.set_cons_succ]
  refine wpAnyH_take (i := 6) (oi := _) (v := .int .i64 (n : Nat)) rfl (by kernel_rfl) (by kernel_rfl) (by kernel_rfl) (fun _ _ _ h => h) (Or.inl ⟨by rfl, fun w' h => by have c : w'.cell? ⟨gM, 2, none⟩ = some (.int .i64 (n : Nat)) := Blk.cell h.2.2 2; clear h; go_simp⟩) hS ?_
  change wpAnyH _ _ _ _ _ _ _ (Act.put _ (some 83) _) _
  simp only [Act.put, List.setIfInBounds_toArray, List.set_cons_zero, List.set_cons_succ]
  refine wpAnyH_take (i := 7) (oi := _) (v := ?_) rfl (by kernel_rfl) (by kernel_rfl) (by kernel_rfl) (fun _ _ _ h => h) (Or.inl ⟨by rfl, ?_⟩) hS ?_
  rotate_left 1
  · intro w hSw; clear hSw; (go_simp <;> with_reducible rfl)
  change wpAnyH _ _ _ _ _ _ _ (Act.put _ (some 84) _) _
  simp only [Act.put, List.setIfInBounds_toArray, List.set_cons_zero, List.set_cons_succ]
  refine wpAnyH_take (i := 8) (oi := _) (v := .int .i64 (n : Nat)) rfl (by kernel_rfl) (by kernel_rfl) (by kernel_rfl) (fun _ _ _ h => h) (Or.inl ⟨by rfl, fun w' h => by have c : w'.cell? ⟨gQ, 1, none⟩ = some (.int .i64 (n : Nat)) := Blk.cell h.2.1 1; clear h; go_simp⟩) hS ?_
  change wpAnyH _ _ _ _ _ _ _ (Act.put _ (some 85) _) _
  simp only [Act.put, List.setIfInBounds_toArray, List.set_cons_zero, List.set_cons_succ]
  refine wpAnyH_take (i := 9) (oi := _) (v := ?_) rfl (by kernel_rfl) (by kernel_rfl) (by kernel_rfl) (fun _ _ _ h => h) (Or.inl ⟨by rfl, ?_⟩) hS ?_
  rotate_left 1
  · intro w hSw; clear hSw; (go_simp <;> with_reducible rfl)
  change wpAnyH _ _ _ _ _ _ _ (Act.put _ (some 86) _) _
  simp only [Act.put, List.setIfInBounds_toArray, List.set_cons_zero, List.set_cons_succ]
  refine wpAnyH_ready (rs := [10, 11]) (by kernel_rfl) (by simp) ?_
  refine AllReadyH.cons rfl (fun K hK => ?_) ?_
  · skip
    go_simp
    obtain ⟨u1, hu⟩ : ∃ x : World, x = (u0).alloc (.cells #[.int .i64 4, .int .i64 (n : Nat), .int .i64 (n : Nat), .int .i64 (n : Nat)] 71) := ⟨_, rfl⟩
    rw [← hu]
    have eu : Below u0.heap.size (u0) u1 := by rw [hu]; exact (Below.refl _ _).alloc (by (try rw [setRow_size]); exact Nat.le_refl _) _
    have KA1 : Blk u1 u0.heap.size 71 #[.int .i64 4, .int .i64 (n : Nat), .int .i64 (n : Nat), .int .i64 (n : Nat)] := by rw [hu]; exact Blk.new_at _ _ _ _ (by first | rfl | rw [setRow_size])
    have zu : u0.heap.size + 1 ≤ u1.heap.size := by rw [hu]; simp
    clear hu
    refine hK.out _ _ (⟨hS.1.belL eu (by omega), hS.2.1.belL eu (by omega), hS.2.2.belL eu (by omega)⟩) (fun hS => ?_)
    clear hK K
    try change wpAnyH _ _ _ _ _ _ _ (Act.put _ (some 87) _) _
    try simp only [Act.put, List.setIfInBounds_toArray, List.set_cons_zero, List.set_cons_succ]
    refine wpAnyH_ready (rs := [11]) (by kernel_rfl) (by simp) ?_
    refine AllReadyH.cons rfl (fun K hK => ?_) ?_
    · skip
      rw [if_pos (by rfl)]
      have HRf := HRu.belL eu (by omega)
      refine wp_store_row 51 (.tmp 6) (.tmp 77) rfl gR #[.slice KA' 22 cA', .slice WA' 0 dA', .slice KB' 22 cB', .slice WB' 0 dB', .int .i64 0, .int .i64 0, .int .i64 0, .slice H' 0 hc', .int .i64 0, .int .i64 0, .int .i64 0, .slice X' 0 xc', .bool false, .int .i64 0, .int .i64 0, .slice L' n lc', .slice S' ns sc', .int .i64 (n : Nat), .slice O' no oc'] rfl rfl 51 #[.slice none 0 0, .slice none 0 0, .slice none 0 0, .slice none 0 0, .int .i64 0, .int .i64 0, .int .i64 0, .slice none 0 0, .int .i64 0, .int .i64 0, .int .i64 0, .slice none 0 0, .bool false, .int .i64 0, .int .i64 0, .slice none 0 0, .slice none 0 0, .int .i64 0, .slice none 0 0] HRf (by kernel_rfl) rfl (by simp [Value.oneCell']) ?_
      refine hK.out _ _ (⟨hS.1.rowFar (show gC ≠ gR by omega) _, hS.2.1.rowFar (show gQ ≠ gR by omega) _, hS.2.2.rowFar (show gM ≠ gR by omega) _⟩) (fun hS => ?_)
      clear hK K
      try change wpAnyH _ _ _ _ _ _ _ (Act.put _ none _) _
      try simp only [Act.put, List.setIfInBounds_toArray, List.set_cons_zero, List.set_cons_succ]
      refine wpAnyH_take (i := 12) (oi := _) (v := ?_) rfl (by kernel_rfl) (by kernel_rfl) (by kernel_rfl) (fun _ _ _ h => h) (Or.inl ⟨by rfl, ?_⟩) hS ?_
      rotate_left 1
      · intro w hSw; clear hSw; (go_simp <;> with_reducible rfl)
      change wpAnyH _ _ _ _ _ _ _ (Act.put _ (some 7) _) _
      simp only [Act.put, List.setIfInBounds_toArray, List.set_cons_zero, List.set_cons_succ]
      refine wpAnyH_done (by kernel_rfl) ?_ _
      go_wp21
      refine bodyPost_ret (v := .tuple #[.agg #[.slice KA' 22 cA', .slice WA' 0 dA', .slice KB' 22 cB', .slice WB' 0 dB', .int .i64 0, .int .i64 0, .int .i64 0, .slice H' 0 hc', .int .i64 0, .int .i64 0, .int .i64 0, .slice X' 0 xc', .bool false, .int .i64 0, .int .i64 0, .slice L' n lc', .slice S' ns sc', .int .i64 (n : Nat), .slice O' no oc'], .slice (some ⟨u0.heap.size, 0, none⟩) 1 1]) (results_row_tmp rfl _ _ gR 51 #[.slice KA' 22 cA', .slice WA' 0 dA', .slice KB' 22 cB', .slice WB' 0 dB', .int .i64 0, .int .i64 0, .int .i64 0, .slice H' 0 hc', .int .i64 0, .int .i64 0, .int .i64 0, .slice X' 0 xc', .bool false, .int .i64 0, .int .i64 0, .slice L' n lc', .slice S' ns sc', .int .i64 (n : Nat), .slice O' no oc'] (0, 0) _ _ rfl (HRf.setRow _) Tryz.underlying51 rfl (by kernel_rfl) rfl) rfl ?_
      have q1 := (((HTu.inB eu (fun k hk => by have := hk.2; omega)).rowFar (g := gR) (Rg.no (by omega)) #[.slice KA' 22 cA', .slice WA' 0 dA', .slice KB' 22 cB', .slice WB' 0 dB', .int .i64 0, .int .i64 0, .int .i64 0, .slice H' 0 hc', .int .i64 0, .int .i64 0, .int .i64 0, .slice X' 0 xc', .bool false, .int .i64 0, .int .i64 0, .slice L' n lc', .slice S' ns sc', .int .i64 (n : Nat), .slice O' no oc'])).sub (Rg.sub (c := w.heap.size) (d := (u1.setRow gR #[.slice KA' 22 cA', .slice WA' 0 dA', .slice KB' 22 cB', .slice WB' 0 dB', .int .i64 0, .int .i64 0, .int .i64 0, .slice H' 0 hc', .int .i64 0, .int .i64 0, .int .i64 0, .slice X' 0 xc', .bool false, .int .i64 0, .int .i64 0, .slice L' n lc', .slice S' ns sc', .int .i64 (n : Nat), .slice O' no oc']).heap.size) (by omega) (by (try rw [setRow_size]); omega))
      have q2 := ((Blk.on (KA1.rowFar (show u0.heap.size ≠ gR by omega) #[.slice KA' 22 cA', .slice WA' 0 dA', .slice KB' 22 cB', .slice WB' 0 dB', .int .i64 0, .int .i64 0, .int .i64 0, .slice H' 0 hc', .int .i64 0, .int .i64 0, .int .i64 0, .slice X' 0 xc', .bool false, .int .i64 0, .int .i64 0, .slice L' n lc', .slice S' ns sc', .int .i64 (n : Nat), .slice O' no oc'])).map (fun v hv => sl_of_ack hv)).sub (T := Rg w.heap.size (u1.setRow gR #[.slice KA' 22 cA', .slice WA' 0 dA', .slice KB' 22 cB', .slice WB' 0 dB', .int .i64 0, .int .i64 0, .int .i64 0, .slice H' 0 hc', .int .i64 0, .int .i64 0, .int .i64 0, .slice X' 0 xc', .bool false, .int .i64 0, .int .i64 0, .slice L' n lc', .slice S' ns sc', .int .i64 (n : Nat), .slice O' no oc']).heap.size) (fun k hk => ⟨by rw [hk]; have := fu.size; omega, by rw [hk]; (try rw [setRow_size]); omega⟩)
      exact ⟨KA', cA', WA', dA', KB', cB', WB', dB', H', hc', X', xc', L', lc', S', sc', O', oc', _, rfl, q1.and q2, Below.rowFar (fu.trans (eu.mono (by have := fu.size; omega))) (g := gR) (by omega) #[.slice KA' 22 cA', .slice WA' 0 dA', .slice KB' 22 cB', .slice WB' 0 dB', .int .i64 0, .int .i64 0, .int .i64 0, .slice H' 0 hc', .int .i64 0, .int .i64 0, .int .i64 0, .slice X' 0 xc', .bool false, .int .i64 0, .int .i64 0, .slice L' n lc', .slice S' ns sc', .int .i64 (n : Nat), .slice O' no oc']⟩
    exact AllReadyH.nil
  refine AllReadyH.cons rfl (fun K hK => ?_) ?_
  · skip
    rw [if_pos (by rfl)]
    have HRf := HRu
    refine wp_store_row 51 (.tmp 6) (.tmp 77) rfl gR #[.slice KA' 22 cA', .slice WA' 0 dA', .slice KB' 22 cB', .slice WB' 0 dB', .int .i64 0, .int .i64 0, .int .i64 0, .slice H' 0 hc', .int .i64 0, .int .i64 0, .int .i64 0, .slice X' 0 xc', .bool false, .int .i64 0, .int .i64 0, .slice L' n lc', .slice S' ns sc', .int .i64 (n : Nat), .slice O' no oc'] rfl rfl 51 #[.slice none 0 0, .slice none 0 0, .slice none 0 0, .slice none 0 0, .int .i64 0, .int .i64 0, .int .i64 0, .slice none 0 0, .int .i64 0, .int .i64 0, .int .i64 0, .slice none 0 0, .bool false, .int .i64 0, .int .i64 0, .slice none 0 0, .slice none 0 0, .int .i64 0, .slice none 0 0] HRf (by kernel_rfl) rfl (by simp [Value.oneCell']) ?_
    refine hK.out _ _ (⟨hS.1.rowFar (show gC ≠ gR by omega) _, hS.2.1.rowFar (show gQ ≠ gR by omega) _, hS.2.2.rowFar (show gM ≠ gR by omega) _⟩) (fun hS => ?_)
    clear hK K
    try change wpAnyH _ _ _ _ _ _ _ (Act.put _ none _) _
    try simp only [Act.put, List.setIfInBounds_toArray, List.set_cons_zero, List.set_cons_succ]
    refine wpAnyH_ready (rs := [10]) (by kernel_rfl) (by simp) ?_
    refine AllReadyH.cons rfl (fun K hK => ?_) ?_
    · skip
      go_simp
      obtain ⟨u1, hu⟩ : ∃ x : World, x = (u0.setRow gR #[.slice KA' 22 cA', .slice WA' 0 dA', .slice KB' 22 cB', .slice WB' 0 dB', .int .i64 0, .int .i64 0, .int .i64 0, .slice H' 0 hc', .int .i64 0, .int .i64 0, .int .i64 0, .slice X' 0 xc', .bool false, .int .i64 0, .int .i64 0, .slice L' n lc', .slice S' ns sc', .int .i64 (n : Nat), .slice O' no oc']).alloc (.cells #[.int .i64 4, .int .i64 (n : Nat), .int .i64 (n : Nat), .int .i64 (n : Nat)] 71) := ⟨_, rfl⟩
      rw [← hu]
      have eu : Below u0.heap.size (u0.setRow gR #[.slice KA' 22 cA', .slice WA' 0 dA', .slice KB' 22 cB', .slice WB' 0 dB', .int .i64 0, .int .i64 0, .int .i64 0, .slice H' 0 hc', .int .i64 0, .int .i64 0, .int .i64 0, .slice X' 0 xc', .bool false, .int .i64 0, .int .i64 0, .slice L' n lc', .slice S' ns sc', .int .i64 (n : Nat), .slice O' no oc']) u1 := by rw [hu]; exact (Below.refl _ _).alloc (by (try rw [setRow_size]); exact Nat.le_refl _) _
      have KA1 : Blk u1 u0.heap.size 71 #[.int .i64 4, .int .i64 (n : Nat), .int .i64 (n : Nat), .int .i64 (n : Nat)] := by rw [hu]; exact Blk.new_at _ _ _ _ (by first | rfl | rw [setRow_size])
      have zu : u0.heap.size + 1 ≤ u1.heap.size := by rw [hu]; simp
      clear hu
      refine hK.out _ _ (⟨hS.1.belL eu (by omega), hS.2.1.belL eu (by omega), hS.2.2.belL eu (by omega)⟩) (fun hS => ?_)
      clear hK K
      try change wpAnyH _ _ _ _ _ _ _ (Act.put _ (some 87) _) _
      try simp only [Act.put, List.setIfInBounds_toArray, List.set_cons_zero, List.set_cons_succ]
      refine wpAnyH_take (i := 12) (oi := _) (v := ?_) rfl (by kernel_rfl) (by kernel_rfl) (by kernel_rfl) (fun _ _ _ h => h) (Or.inl ⟨by rfl, ?_⟩) hS ?_
      rotate_left 1
      · intro w hSw; clear hSw; (go_simp <;> with_reducible rfl)
      change wpAnyH _ _ _ _ _ _ _ (Act.put _ (some 7) _) _
      simp only [Act.put, List.setIfInBounds_toArray, List.set_cons_zero, List.set_cons_succ]
      refine wpAnyH_done (by kernel_rfl) ?_ _
      go_wp21
      refine bodyPost_ret (v := .tuple #[.agg #[.slice KA' 22 cA', .slice WA' 0 dA', .slice KB' 22 cB', .slice WB' 0 dB', .int .i64 0, .int .i64 0, .int .i64 0, .slice H' 0 hc', .int .i64 0, .int .i64 0, .int .i64 0, .slice X' 0 xc', .bool false, .int .i64 0, .int .i64 0, .slice L' n lc', .slice S' ns sc', .int .i64 (n : Nat), .slice O' no oc'], .slice (some ⟨u0.heap.size, 0, none⟩) 1 1]) (results_row_tmp rfl _ _ gR 51 #[.slice KA' 22 cA', .slice WA' 0 dA', .slice KB' 22 cB', .slice WB' 0 dB', .int .i64 0, .int .i64 0, .int .i64 0, .slice H' 0 hc', .int .i64 0, .int .i64 0, .int .i64 0, .slice X' 0 xc', .bool false, .int .i64 0, .int .i64 0, .slice L' n lc', .slice S' ns sc', .int .i64 (n : Nat), .slice O' no oc'] (0, 0) _ _ rfl ((HRf.setRow #[.slice KA' 22 cA', .slice WA' 0 dA', .slice KB' 22 cB', .slice WB' 0 dB', .int .i64 0, .int .i64 0, .int .i64 0, .slice H' 0 hc', .int .i64 0, .int .i64 0, .int .i64 0, .slice X' 0 xc', .bool false, .int .i64 0, .int .i64 0, .slice L' n lc', .slice S' ns sc', .int .i64 (n : Nat), .slice O' no oc']).belL eu (by omega)) Tryz.underlying51 rfl (by kernel_rfl) rfl) rfl ?_
      have q1 := (((HTu.rowFar (g := gR) (Rg.no (by omega)) #[.slice KA' 22 cA', .slice WA' 0 dA', .slice KB' 22 cB', .slice WB' 0 dB', .int .i64 0, .int .i64 0, .int .i64 0, .slice H' 0 hc', .int .i64 0, .int .i64 0, .int .i64 0, .slice X' 0 xc', .bool false, .int .i64 0, .int .i64 0, .slice L' n lc', .slice S' ns sc', .int .i64 (n : Nat), .slice O' no oc']).inB eu (fun k hk => by have := hk.2; omega))).sub (Rg.sub (c := w.heap.size) (d := (u1).heap.size) (by omega) (by (try rw [setRow_size]); omega))
      have q2 := ((Blk.on KA1).map (fun v hv => sl_of_ack hv)).sub (T := Rg w.heap.size (u1).heap.size) (fun k hk => ⟨by rw [hk]; have := fu.size; omega, by rw [hk]; (try rw [setRow_size]); omega⟩)
      exact ⟨KA', cA', WA', dA', KB', cB', WB', dB', H', hc', X', xc', L', lc', S', sc', O', oc', _, rfl, q1.and q2, (Below.rowFar fu (g := gR) (by omega) #[.slice KA' 22 cA', .slice WA' 0 dA', .slice KB' 22 cB', .slice WB' 0 dB', .int .i64 0, .int .i64 0, .int .i64 0, .slice H' 0 hc', .int .i64 0, .int .i64 0, .int .i64 0, .slice X' 0 xc', .bool false, .int .i64 0, .int .i64 0, .slice L' n lc', .slice S' ns sc', .int .i64 (n : Nat), .slice O' no oc']).trans (eu.mono (by have := fu.size; omega))⟩
    exact AllReadyH.nil
  exact AllReadyH.nil
end Go.Proofs.YtbheflinchabgaaGreatDoor
namespace Go.Proofs.YtbheflinchabgaaGreatDoor
set_option linter.unusedSimpArgs false
set_option linter.unusedVariables false
attribute [local go_sem] n_lt2 n_lt3 n_lt4 n_le2 n_le3
open Go.RowKit
attribute [local go_sem] Ext.cell Ext.frozen
theorem right_head {a b : List Int} (ha : a = withL headL) (hb : b = withL headL) : rightL a b = [headL] := by
  subst ha hb
  exact rightL_same (unsumL_with _) (unsumL_with _)
theorem right_blank {z : List Int} (h : blankL z) : rightL z z = [] ∨ rightL z z = [[]] := by
  rcases h.uns with h1 | h1
  · exact .inl (by rw [rightL_no h1, rightH_no h1])
  · exact .inr (rightL_same h1 h1)
def HIrel (fv av : Value) (wr w : World) (g4 gT gR : Nat) (D0 D1 D2 D3 : Value) : Prop := ((av = .int .i64 0 ∧ fv = .bool false) ∨ (av = .int .i64 1 ∧ fv = .bool true) ∨ (av = .int .i64 2 ∧ fv = .bool true)) ∧ Hid (Blk wr g4 45 #[.int .i64 0, .int .i64 0, .int .i64 0, .slice none 0 0]) ∧ Hid (Blk wr gT 42 #[D0, D1, D2, D3]) ∧ Hid (Blk wr gR 45 #[.int .i64 0, .int .i64 0, .int .i64 0, .slice none 0 0]) ∧ Hid (Below w.heap.size w wr)
set_option maxRecDepth 100000 in
set_option maxHeartbeats 8000000 in
theorem headIn_yes (KA WA KB WB : Option Addr) (cA dA cB dB : Nat) (ra rb : List (List Int)) (z : List Int) (w : World) (hA : Dk w KA 22 WA 0 ra []) (hB : Dk w KB 22 WB 0 rb []) (ha0 : ra.getD 0 [] = withL headL) (hb0 : rb.getD 0 [] = withL headL) (ha1 : ra.getD 1 [] = z) (hb1 : rb.getD 1 [] = z) (hz : blankL z) :
    Calls Tryz.prog 81 #[.agg #[.slice KA 22 cA, .slice WA 0 dA, .slice KB 22 cB, .slice WB 0 dB]] w fun e w' => e = .returned (.tuple #[.agg #[.int .i64 0, .int .i64 0, .int .i64 0, .slice none 0 0], .bool true]) ∧ Below w.heap.size w w' := by
  have HR0 : Hid (rightL (ra.getD 0 []) (rb.getD 0 []) = [headL]) := Lib.hid (right_head ha0 hb0)
  have HR1 : Hid (rightL (ra.getD 1 []) (rb.getD 1 []) = [] ∨ rightL (ra.getD 1 []) (rb.getD 1 []) = [[]]) := Lib.hid (by rw [ha1, hb1]; exact right_blank hz)
  have HAB0 : Hid (∀ x y, unsumL (ra.getD 0 []) = some x → unsumL (rb.getD 0 []) = some y → x = y ∨ x.length ≠ y.length) := Lib.hid (fun x y h1 h2 => .inl (by rw [ha0] at h1; rw [hb0] at h2; rw [h1] at h2; exact Option.some.inj h2))
  have HAB1 : Hid (∀ x y, unsumL (ra.getD 1 []) = some x → unsumL (rb.getD 1 []) = some y → x = y ∨ x.length ≠ y.length) := Lib.hid (fun x y h1 h2 => .inl (by rw [ha1] at h1; rw [hb1] at h2; rw [h1] at h2; exact Option.some.inj h2))
  clear ha0 hb0 ha1 hb1 hz
  have HIA : Hid (On (Rg 0 w.heap.size) (fun x => Dk x KA 22 WA 0 ra []) w) := Lib.hid (On.below_of (fun _ hb => (hA).below hb))
  clear hA
  have HIB : Hid (On (Rg 0 w.heap.size) (fun x => Dk x KB 22 WB 0 rb []) w) := Lib.hid (On.below_of (fun _ hb => (hB).below hb))
  clear hB
  go_enter Tryz.func81, Tryz.ntmps81
  go_wp2_with fail
  refine calls_named ?_
  rintro v0 hv0
  have f0 : Below w.heap.size w v0 := by rw [hv0]; (repeat' (first | (with_reducible exact Below.refl _ _) | (with_reducible assumption) | (with_reducible refine Below.alloc ?_ ?_ _) | (with_reducible refine Below.drew ?_) | (with_reducible refine Below.setCell ?_ ?_ _) | (with_reducible refine bstep (by assumption) ?_ ?_) | (with_reducible exact Nat.le_refl _) | omega | (simp [*]; done) | (simp [*]; omega)))
  have z0 : w.heap.size + 2 ≤ v0.heap.size := by rw [hv0]; simp [size_set]
  have HT_0 : Hid (Blk v0 w.heap.size 42 #[.slice KA 22 cA, .slice WA 0 dA, .slice KB 22 cB, .slice WB 0 dB]) := by rw [hv0]; exact Lib.hid (((Blk.new_at _ _ _ _ (by simp [size_set]))).alloc _)
  have HR_0 : Hid (Blk v0 (w.heap.size + 1) 45 #[.int .i64 0, .int .i64 0, .int .i64 0, .slice none 0 0]) := by rw [hv0]; exact Lib.hid ((Blk.new_at _ _ _ _ (by simp [size_set])))
  clear hv0
  obtain ⟨gR, hgR⟩ : ∃ q, q = w.heap.size + 1 := ⟨_, rfl⟩
  rw [← hgR] at HR_0
  try rw [← hgR]
  have lgR : w.heap.size ≤ gR := by omega
  have mgR : gR < v0.heap.size := by omega
  have ngR : ∀ k, w.heap.size ≤ k → k ≠ gR → True := fun _ _ _ => trivial
  clear ngR
  obtain ⟨gT, hgT⟩ : ∃ q, q = w.heap.size := ⟨_, rfl⟩
  rw [← hgT] at HT_0
  try rw [← hgT]
  have lgT : w.heap.size ≤ gT := by omega
  have mgT : gT < v0.heap.size := by omega
  have ngT : ∀ k, w.heap.size ≤ k → k ≠ gT → True := fun _ _ _ => trivial
  clear ngT
  have nnTR : gT < gR := by omega
  clear hgT
  clear hgR
  refine (keptOk_yes KA WA KB WB cA 0 dA cB 0 dB ra rb [] [] v0 ((HIA.out).inB f0 (fun _ hk => hk.2)).out ((HIB.out).inB f0 (fun _ hk => hk.2)).out).mono ?_
  rintro e v1 ⟨rfl, b1⟩
  have f1 := bthen f0 b1
  have z1 := b1.size
  have HT_1 := Lib.hid (HT_0.out.below b1)
  have HR_1 := Lib.hid (HR_0.out.below b1)
  clear HT_0 HR_0
  go_upto_region 4 with fail
  obtain ⟨v2, hv2⟩ : ∃ x : World, x = (v1.alloc (.cells #[.int .i64 0, .int .i64 0, .int .i64 0, .slice none 0 0] 45)) := ⟨_, rfl⟩
  rw [← hv2]
  have f2 : Below w.heap.size w v2 := by rw [hv2]; (repeat' (first | (with_reducible exact Below.refl _ _) | (with_reducible assumption) | (with_reducible refine Below.alloc ?_ ?_ _) | (with_reducible refine Below.drew ?_) | (with_reducible refine Below.setCell ?_ ?_ _) | (with_reducible refine bstep (by assumption) ?_ ?_) | (with_reducible exact Nat.le_refl _) | omega | (simp [*]; done) | (simp [*]; omega)))
  have z2 : v1.heap.size + 1 ≤ v2.heap.size := by rw [hv2]; simp [size_set]
  have HT_2 : Hid (Blk v2 gT 42 #[.slice KA 22 cA, .slice WA 0 dA, .slice KB 22 cB, .slice WB 0 dB]) := by rw [hv2]; exact Lib.hid ((HT_1.out).alloc _)
  have HR_2 : Hid (Blk v2 gR 45 #[.int .i64 0, .int .i64 0, .int .i64 0, .slice none 0 0]) := by rw [hv2]; exact Lib.hid ((HR_1.out).alloc _)
  have H4_2 : Hid (Blk v2 v1.heap.size 45 #[.int .i64 0, .int .i64 0, .int .i64 0, .slice none 0 0]) := by rw [hv2]; exact Lib.hid ((Blk.new_at _ _ _ _ (by simp [size_set])))
  clear hv2 HT_1 HR_1
  obtain ⟨g4, hg4⟩ : ∃ q, q = v1.heap.size := ⟨_, rfl⟩
  rw [← hg4] at H4_2
  try rw [← hg4]
  have lg4 : v1.heap.size ≤ g4 := by omega
  have mg4 : g4 < v2.heap.size := by omega
  have ng4 : ∀ k, v1.heap.size ≤ k → k ≠ g4 → True := fun _ _ _ => trivial
  clear ng4
  clear hg4
  go_wp2_with fail
  go_loopw [5, 6] (fun fv av wr => HIrel fv av wr w g4 gT gR (.slice KA 22 cA) (.slice WA 0 dA) (.slice KB 22 cB) (.slice WB 0 dB)) (fun _ av _ => 2 - (intOf av).toNat)
  case atStart => unfold HIrel; exact ⟨.inl ⟨rfl, rfl⟩, H4_2, HT_2, HR_2, Lib.hid f2⟩
  case round =>
    clear H4_2 HT_2 HR_2
    unfold HIrel at hrel
    obtain ⟨hj, H4x, HTx, HRx, HFx⟩ := hrel
    have hlt4 := H4x.out.lt
    rcases hj with ⟨rfl, rfl⟩ | ⟨rfl, rfl⟩ | ⟨rfl, rfl⟩
    · obtain ⟨v3, hv3⟩ : ∃ x, x = wr := ⟨_, rfl⟩
      rw [← hv3] at H4x HTx HRx HFx hlt4 ⊢
      have f3 := HFx.out
      have z3 : w.heap.size ≤ v3.heap.size := f3.size
      clear hv3 HFx
      have H4_3 := H4x
      have HT_3 := HTx
      have HR_3 := HRx
      clear H4x HTx HRx
      have lt_T := HT_3.out.lt
      obtain ⟨r_T0, r_T1, r_T2, r_T3⟩ := bc4 HT_3.out
      go_wp2_with fail
      have cr := rightAt_any KA WA KB WB cA dA cB dB ra rb 0 v3 ((HIA.out).inB f3 (fun _ hk => hk.2)).out ((HIB.out).inB f3 (fun _ hk => hk.2)).out (by decide) HAB0.out
      rw [HR0.out] at cr
      refine cr.mono ?_
      rintro e v4 ⟨A1, c1, vs1, rfl, hO, b4⟩
      clear cr
      simp only [List.length_cons, List.length_nil, Nat.zero_add] at hO ⊢
      have f4 := bthen f3 b4
      have z4 := b4.size
      have H4_4 := Lib.hid (H4_3.out.below b4)
      have HT_4 := Lib.hid (HT_3.out.below b4)
      have HR_4 := Lib.hid (HR_3.out.below b4)
      clear lt_T r_T0 r_T1 r_T2 r_T3
      clear H4_3 HT_3 HR_3
      have HO4 := Lib.hid hO
      clear hO
      go_wp2_with fail
      go_loopw [5, 24] (fun fv iv wr => (iv = .int .i64 0 ∧ fv = .bool false ∧ v4 = wr) ∨ (iv = .int .i64 1 ∧ fv = .bool true ∧ Hid (Blk wr g4 45 #[.int .i64 0, .int .i64 0, .int .i64 0, .slice none 0 0]) ∧ Hid (Blk wr gT 42 #[.slice KA 22 cA, .slice WA 0 dA, .slice KB 22 cB, .slice WB 0 dB]) ∧ Hid (Blk wr gR 45 #[.int .i64 0, .int .i64 0, .int .i64 0, .slice none 0 0]) ∧ Hid (Below w.heap.size w wr))) (fun _ iv _ => 1 - (intOf iv).toNat)
      case atStart => exact .inl ⟨rfl, rfl, rfl⟩
      case round =>
        rcases hrel with ⟨rfl, rfl, rfl⟩ | ⟨rfl, rfl, H4y, HTy, HRy, HFy⟩
        · obtain ⟨b, off, v, rfl, hb, hc, hv⟩ := HO4.out.out.slr.at_ (j := 0) (by decide)
          simp only [Nat.add_zero, List.getD_cons_zero] at hc hv
          obtain ⟨Ax, cx, rfl, hSx, hx1, hx2, hx3, hx4⟩ := hv
          obtain ⟨bx, ox, rfl, -, -⟩ := hSx.at_ (by decide)
          rw [show headL.length = 13 from rfl] at hc hSx
          have hcc := rowHead_zero bx ox cx v4 hSx
          clear hSx hx1 hx2 hx3 hx4
          go_wp2_with fail
          refine hcc.mono ?_
          rintro e v5 ⟨rfl, b5⟩
          clear hcc hc hb HO4
          have f5 := bthen f4 b5
          have z5 := b5.size
          have H4_5 := Lib.hid (H4_4.out.below b5)
          have HT_5 := Lib.hid (HT_4.out.below b5)
          have HR_5 := Lib.hid (HR_4.out.below b5)
          clear H4_4 HT_4 HR_4
          have lt_4 := H4_5.out.lt
          obtain ⟨r_40, r_41, r_42, r_43⟩ := bc4 H4_5.out
          obtain ⟨z_40, z_41, z_42, z_43⟩ := bf4 H4_5.out
          go_wp2_with fail
          exact ⟨.inr ⟨rfl, rfl, Lib.hid ((((((H4_5.out).set_ 0 _).set_ 1 _).set_ 2 _).set_ 3 _).alloc _), Lib.hid ((((((HT_5.out).far (p := ⟨g4, 0, none⟩) (show gT ≠ g4 by omega) _).far (p := ⟨g4, 1, none⟩) (show gT ≠ g4 by omega) _).far (p := ⟨g4, 2, none⟩) (show gT ≠ g4 by omega) _).far (p := ⟨g4, 3, none⟩) (show gT ≠ g4 by omega) _).alloc _), Lib.hid ((((((HR_5.out).far (p := ⟨g4, 0, none⟩) (show gR ≠ g4 by omega) _).far (p := ⟨g4, 1, none⟩) (show gR ≠ g4 by omega) _).far (p := ⟨g4, 2, none⟩) (show gR ≠ g4 by omega) _).far (p := ⟨g4, 3, none⟩) (show gR ≠ g4 by omega) _).alloc _), Lib.hid ((((((f5).setCell (p := ⟨g4, 0, none⟩) (show w.heap.size ≤ g4 by omega) _).setCell (p := ⟨g4, 1, none⟩) (show w.heap.size ≤ g4 by omega) _).setCell (p := ⟨g4, 2, none⟩) (show w.heap.size ≤ g4 by omega) _).setCell (p := ⟨g4, 3, none⟩) (show w.heap.size ≤ g4 by omega) _).alloc (by (try simp only [size_set]); omega) _)⟩, by simp [intOf]⟩
        · clear H4_4 HT_4 HR_4 HO4
          go_wp2_with fail
          refine ⟨?_, by simp [intOf]⟩
          unfold HIrel
          exact ⟨.inr (.inl ⟨rfl, rfl⟩), H4y, HTy, HRy, HFy⟩
    · obtain ⟨v3, hv3⟩ : ∃ x, x = wr := ⟨_, rfl⟩
      rw [← hv3] at H4x HTx HRx HFx hlt4 ⊢
      have f3 := HFx.out
      have z3 : w.heap.size ≤ v3.heap.size := f3.size
      clear hv3 HFx
      have H4_3 := H4x
      have HT_3 := HTx
      have HR_3 := HRx
      clear H4x HTx HRx
      have lt_T := HT_3.out.lt
      obtain ⟨r_T0, r_T1, r_T2, r_T3⟩ := bc4 HT_3.out
      go_wp2_with fail
      have cr := rightAt_any KA WA KB WB cA dA cB dB ra rb 1 v3 ((HIA.out).inB f3 (fun _ hk => hk.2)).out ((HIB.out).inB f3 (fun _ hk => hk.2)).out (by decide) HAB1.out
      rcases HR1.out with hr | hr
      · rw [hr] at cr
        refine cr.mono ?_
        rintro e v4 ⟨A1, c1, vs1, rfl, hO, b4⟩
        clear cr hO hr
        simp only [List.length_nil]
        have f4 := bthen f3 b4
        have z4 := b4.size
        have H4_4 := Lib.hid (H4_3.out.below b4)
        have HT_4 := Lib.hid (HT_3.out.below b4)
        have HR_4 := Lib.hid (HR_3.out.below b4)
        clear lt_T r_T0 r_T1 r_T2 r_T3
        clear H4_3 HT_3 HR_3
        go_wp2_with fail
        go_loopw [5, 24] (fun fv iv wr => iv = .int .i64 0 ∧ fv = .bool true ∧ v4 = wr) (fun _ _ _ => 0)
        case atStart => exact ⟨rfl, rfl, rfl⟩
        case round =>
          obtain ⟨rfl, rfl, rfl⟩ := hrel
          go_wp2_with fail
          refine ⟨?_, by simp [intOf]⟩
          unfold HIrel
          exact ⟨.inr (.inr ⟨rfl, rfl⟩), H4_4, HT_4, HR_4, Lib.hid f4⟩
      · rw [hr] at cr
        refine cr.mono ?_
        rintro e v4 ⟨A1, c1, vs1, rfl, hO, b4⟩
        clear cr hr
        simp only [List.length_cons, List.length_nil, Nat.zero_add] at hO ⊢
        have f4 := bthen f3 b4
        have z4 := b4.size
        have H4_4 := Lib.hid (H4_3.out.below b4)
        have HT_4 := Lib.hid (HT_3.out.below b4)
        have HR_4 := Lib.hid (HR_3.out.below b4)
        clear lt_T r_T0 r_T1 r_T2 r_T3
        clear H4_3 HT_3 HR_3
        have HO4 := Lib.hid hO
        clear hO
        go_wp2_with fail
        go_loopw [5, 24] (fun fv iv wr => (iv = .int .i64 0 ∧ fv = .bool true ∧ v4 = wr) ∨ (iv = .int .i64 1 ∧ fv = .bool true ∧ Hid (Blk wr g4 45 #[.int .i64 0, .int .i64 0, .int .i64 0, .slice none 0 0]) ∧ Hid (Blk wr gT 42 #[.slice KA 22 cA, .slice WA 0 dA, .slice KB 22 cB, .slice WB 0 dB]) ∧ Hid (Blk wr gR 45 #[.int .i64 0, .int .i64 0, .int .i64 0, .slice none 0 0]) ∧ Hid (Below w.heap.size w wr))) (fun _ iv _ => 1 - (intOf iv).toNat)
        case atStart => exact .inl ⟨rfl, rfl, rfl⟩
        case round =>
          rcases hrel with ⟨rfl, rfl, rfl⟩ | ⟨rfl, rfl, H4y, HTy, HRy, HFy⟩
          · obtain ⟨b, off, v, rfl, hb, hc, hv⟩ := HO4.out.out.slr.at_ (j := 0) (by decide)
            simp only [Nat.add_zero, List.getD_cons_zero] at hc hv
            obtain ⟨Ax, cx, rfl, hSx, hx1, hx2, hx3, hx4⟩ := hv
            simp only [List.length_nil] at hc
            have hcc := rowHead_no Ax 0 cx v4 (by decide) (by decide)
            clear hSx hx1 hx2 hx3 hx4
            go_wp2_with fail
            refine hcc.mono ?_
            rintro e v5 ⟨rfl, b5⟩
            clear hcc hc hb HO4
            have f5 := bthen f4 b5
            have z5 := b5.size
            have H4_5 := Lib.hid (H4_4.out.below b5)
            have HT_5 := Lib.hid (HT_4.out.below b5)
            have HR_5 := Lib.hid (HR_4.out.below b5)
            clear H4_4 HT_4 HR_4
            go_wp2_with fail
            exact ⟨.inr ⟨rfl, rfl, Lib.hid ((H4_5.out).alloc _), Lib.hid ((HT_5.out).alloc _), Lib.hid ((HR_5.out).alloc _), Lib.hid ((f5).alloc (by (try simp only [size_set]); omega) _)⟩, by simp [intOf]⟩
          · clear H4_4 HT_4 HR_4 HO4
            go_wp2_with fail
            refine ⟨?_, by simp [intOf]⟩
            unfold HIrel
            exact ⟨.inr (.inr ⟨rfl, rfl⟩), H4y, HTy, HRy, HFy⟩
    · obtain ⟨v3, hv3⟩ : ∃ x, x = wr := ⟨_, rfl⟩
      rw [← hv3] at H4x HTx HRx HFx hlt4 ⊢
      have f3 := HFx.out
      have z3 : w.heap.size ≤ v3.heap.size := f3.size
      clear hv3 HFx
      have H4_3 := H4x
      have HT_3 := HTx
      have HR_3 := HRx
      clear H4x HTx HRx
      have lt_4 := H4_3.out.lt
      obtain ⟨r_40, r_41, r_42, r_43⟩ := bc4 H4_3.out
      have lt_R := HR_3.out.lt
      obtain ⟨r_R0, r_R1, r_R2, r_R3⟩ := bc4 HR_3.out
      obtain ⟨z_R0, z_R1, z_R2, z_R3⟩ := bf4 HR_3.out
      go_wp21
      refine bodyPost_ret (v := .tuple #[.agg #[.int .i64 0, .int .i64 0, .int .i64 0, .slice none 0 0], .bool true]) (by simp [results, Tryz.results81, go_sem, *]) rfl ?_
      exact ⟨rfl, by (repeat' (first | (with_reducible exact Below.refl _ _) | (with_reducible assumption) | (with_reducible refine Below.alloc ?_ ?_ _) | (with_reducible refine Below.drew ?_) | (with_reducible refine Below.setCell ?_ ?_ _) | (with_reducible refine bstep (by assumption) ?_ ?_) | (with_reducible exact Nat.le_refl _) | omega | (simp [*]; done) | (simp [*]; omega)))⟩
end Go.Proofs.YtbheflinchabgaaGreatDoor
namespace Go.Proofs.YtbheflinchabgaaGreatDoor
set_option linter.unusedSimpArgs false
set_option linter.unusedVariables false
attribute [local go_sem] n_lt2 n_lt3 n_lt4 n_le2 n_le3
open Go.RowKit
attribute [local go_sem] Ext.cell Ext.frozen
/-- The rows that a recovery writes, sector by sector. -/
def recK (fs : List En) (k : Nat) : List (List Int) := headL :: [] :: [] :: ((fs.take k).map slotL ++ List.replicate (19 - k) [])
theorem recK_len (fs : List En) (k : Nat) (h : k ≤ fs.length) (h19 : k ≤ 19) : (recK fs k).length = 22 := by simp [recK]; omega
theorem recK_get (fs : List En) (k i : Nat) (h : k ≤ fs.length) (h19 : k ≤ 19) (hi : i < 19) : (recK fs k).getD (3 + i) [] = if i < k then slotL (fs.getD i default) else [] := by
  rw [show 3 + i = i + 1 + 1 + 1 by omega]
  unfold recK
  rw [List.getD_cons_succ, List.getD_cons_succ, List.getD_cons_succ]
  by_cases hk : i < k
  · rw [if_pos hk]
    simp [List.getD, List.getElem?_append_left, List.getElem?_take, hk, show i < fs.length by omega, Nat.min_eq_left h]
  · rw [if_neg hk]
    have h3 : i - k < 19 - k := by omega
    simp [List.getD, List.getElem?_append_right, Nat.min_eq_left h, show k ≤ i by omega, List.getElem?_replicate, h3]
theorem recK_set (fs : List En) (k : Nat) (h : k < fs.length) (h19 : k < 19) : (recK fs k).set (3 + k) (slotL (fs.getD k default)) = recK fs (k + 1) := by
  apply rows_ext
  · rw [List.length_set, recK_len _ _ (by omega) (by omega), recK_len _ _ (by omega) (by omega)]
  · intro i hi
    rw [List.length_set, recK_len _ _ (by omega) (by omega)] at hi
    rw [set_getD _ _ _ _ (by rw [recK_len _ _ (by omega) (by omega)]; exact hi)]
    match i, hi with
    | 0, _ => rw [if_neg (by omega)]; rfl
    | 1, _ => rw [if_neg (by omega)]; rfl
    | 2, _ => rw [if_neg (by omega)]; rfl
    | j + 3, hi =>
      rw [show j + 3 = 3 + j by omega, recK_get _ _ _ (by omega) (by omega) (by omega), recK_get _ _ _ (by omega) (by omega) (by omega)]
      by_cases e : k = j
      · subst e; rw [if_pos rfl, if_pos (by omega)]
      · rw [if_neg (by omega)]
        by_cases hj : j < k
        · rw [if_pos hj, if_pos (by omega)]
        · rw [if_neg hj, if_neg (by omega)]
theorem recK_zero (fs : List En) : (List.replicate 22 ([] : List Int)).set 0 headL = recK fs 0 := by simp [recK]
theorem recK_row {fs : List En} (h : entsP fs) (k : Nat) (hk : k ≤ fs.length) : ∀ r ∈ recK fs k, rowL r ∧ r.length < 48 := fun r hr => by
  unfold recK at hr
  rcases List.mem_cons.1 hr with rfl | hr
  · exact ⟨⟨by decide, headL_nums⟩, by decide⟩
  rcases List.mem_cons.1 hr with rfl | hr
  · exact ⟨⟨by decide, fun x hx => by cases hx⟩, by decide⟩
  rcases List.mem_cons.1 hr with rfl | hr
  · exact ⟨⟨by decide, fun x hx => by cases hx⟩, by decide⟩
  rcases List.mem_append.1 hr with hr | hr
  · obtain ⟨e, he, rfl⟩ := List.mem_map.1 hr
    obtain ⟨i, hi, rfl⟩ := List.getElem_of_mem (List.mem_of_mem_take he)
    have := h.2.1 i hi
    rw [show fs.getD i default = fs[i] by simp [List.getD, hi]] at this
    exact ⟨⟨by rw [slotL_len]; decide, slotL_nums this (by have := h.1; omega)⟩, by rw [slotL_len]; decide⟩
  · rw [List.eq_of_mem_replicate hr]
    exact ⟨⟨by decide, fun x hx => by cases hx⟩, by decide⟩
theorem recK_disk (fs : List En) (h : fs.length ≤ 19) : (recK fs fs.length).map withL = diskL [7] fs := by
  unfold recK diskL slotW
  rw [List.take_length, List.map_cons, List.map_cons, List.map_cons, List.map_append, List.map_map, List.map_replicate, withL_nil]
  rfl
/-- Rows of which the first k are mended. -/
def mendL (rows rec : List (List Int)) (k : Nat) : List (List Int) := (rec.map withL).take k ++ rows.drop k
theorem mendL_zero (rows rec : List (List Int)) : mendL rows rec 0 = rows := by simp [mendL]
theorem mendL_all (rows rec : List (List Int)) (h : rows.length = rec.length) : mendL rows rec rec.length = rec.map withL := by
  unfold mendL
  rw [List.drop_eq_nil_of_le (by omega), List.append_nil, List.take_of_length_le (by simp)]
theorem mendL_set (rows rec : List (List Int)) (k : Nat) (h : rows.length = rec.length) (hk : k < rec.length) : (mendL rows rec k).set k (withL (rec.getD k [])) = mendL rows rec (k + 1) := by
  have e : (rec.map withL).take (k + 1) = (rec.map withL).take k ++ [withL (rec.getD k [])] := by
    rw [List.take_add_one, show (rec.map withL)[k]?.toList = [withL (rec.getD k [])] by simp [List.getD, hk]]
  unfold mendL
  rw [e, List.set_append_right _ _ (by rw [List.length_take]; omega), List.length_take, List.length_map, Nat.min_eq_left (by omega), Nat.sub_self, List.append_assoc]
  congr 1
  rw [List.drop_eq_getElem_cons (by omega : k < rows.length)]
  rfl
theorem info_SlIntL : (Tryz.prog.info? 59).map (fun i => (i.zero, i.size, i.bytes)) = some (some (.slice none 0 0), 1, 24) := by kernel_rfl
theorem idx22 (cs : Array Value) (k : Nat) (v : Value) (hk : k < 22) (hv : cs[k]? = some v) (w : World) : (Instr.index 165 (.agg cs) (.int .i64 (k : Nat))).run Tryz.prog w = .ok v w := by
  obtain ⟨i0, hi0, hz0, hs0, hy0⟩ := info_parts info_SlIntL
  have h2 : Tryz.prog.cellsOf 59 = 1 := by kernel_rfl
  have hk2 : (k : Int) < 22 := by omega
  simp [Instr.index, asIntOf, run_underlying Tryz.underlying165, part, isAgg, run_underlying Tryz.underlying59, run_sizeOf w hi0, h2, hk2, hv, go_sem]
  intro hh; omega
end Go.Proofs.YtbheflinchabgaaGreatDoor
namespace Go.Proofs.YtbheflinchabgaaGreatDoor
set_option linter.unusedSimpArgs false
set_option linter.unusedVariables false
attribute [local go_sem] n_lt2 n_lt3 n_lt4 n_le2 n_le3
open Go.RowKit
attribute [local go_sem] Ext.cell Ext.frozen
/-- The blocks from lo on, below hi, and those of another stretch. -/
def R2 (a b lo hi : Nat) : Nat → Prop := fun k => (a ≤ k ∧ k < b) ∨ (lo ≤ k ∧ k < hi)
theorem R2.no {a b lo hi g : Nat} (h1 : g < a ∨ b ≤ g) (h2 : g < lo ∨ hi ≤ g) : ¬ R2 a b lo hi g := fun h => by rcases h with h | h <;> omega
theorem R2.rg {a b lo hi x y : Nat} (h1 : lo ≤ x) (h2 : y ≤ hi) : ∀ k, Rg x y k → R2 a b lo hi k := fun k hk => .inr ⟨Nat.le_trans h1 hk.1, Nat.lt_of_lt_of_le hk.2 h2⟩
theorem R2.sub {a b lo hi hi' : Nat} (h : hi ≤ hi') : ∀ k, R2 a b lo hi k → R2 a b lo hi' k := fun k hk => hk.elim .inl (fun h1 => .inr ⟨h1.1, Nat.lt_of_lt_of_le h1.2 h⟩)
theorem R2.old {a b lo hi : Nat} : ∀ k, Rg a b k → R2 a b lo hi k := fun k hk => .inl hk
theorem drew_szR (v : World) : v.drew.heap.size = v.heap.size := rfl
def RetRec (w : World) (fs : List En) (e : Ending) (w' : World) : Prop := ∃ KA cA WA dA KB cB WB dB L c, e = .returned (.tuple #[.agg #[.slice KA 22 cA, .slice WA 0 dA, .slice KB 22 cB, .slice WB 0 dB], .agg #[.int .i64 0, .int .i64 0, .int .i64 0, .slice none 0 0], .agg #[.int .i64 0, .int .i64 0, .slice L fs.length c], .bool true]) ∧
  On (Rg w.heap.size w'.heap.size) (fun x => (Dk x KA 22 WA 0 (diskL [7] fs) [] ∧ Dk x KB 22 WB 0 (diskL [7] fs) []) ∧ Sl x 9 L fs.length (EN fs)) w' ∧ Below w.heap.size w w' ∧ fs.length ≤ c ∧ c ≤ maxLen
theorem Rws.setA {w : World} {cs : Array Value} {rows : List (List Int)} {k : Nat} {v : Value} {zs : List Int} (h : Rws w cs.toList rows) (hk : k < rows.length) (hv : Rw w v zs) : Rws w (cs.setIfInBounds k v).toList (rows.set k zs) := by
  rw [Array.toList_setIfInBounds]
  refine ⟨by simp [h.1], fun j hj => ?_⟩
  rw [List.length_set] at hj
  rw [set_getD _ _ _ _ hj]
  by_cases e : k = j
  · subst e
    rw [if_pos rfl]
    exact ⟨v, by rw [List.getElem?_set_self (by rw [h.1]; exact hj)], hv⟩
  · rw [if_neg e, List.getElem?_set_ne e]
    exact h.2 j hj
def RC1 (iv : Value) (wr w : World) (n lo g6 g7 g9 g10 gA gB gC : Nat) (fs : List En) (b6 b7 b9 bA bB bC : Array Value) : Prop := ∃ (k : Nat) (cs : Array Value), k ≤ n ∧ iv = .int .i64 (k : Nat) ∧ cs.size = 22 ∧ Hid (Blk wr g10 165 cs) ∧ Hid (On (Rg lo wr.heap.size) (fun x => Rws x cs.toList (recK fs k)) wr) ∧
  Hid (Blk wr g6 42 b6 ∧ Blk wr g7 45 b7 ∧ Blk wr g9 48 b9 ∧ Blk wr gA 42 bA ∧ Blk wr gB 45 bB ∧ Blk wr gC 48 bC) ∧ Hid (Below w.heap.size w wr) ∧ lo ≤ wr.heap.size
def RC2 (iv : Value) (wr w : World) (L : Option Addr) (n : Nat) (fs : List En) (SL S : Nat → Prop) (a b lo g6 g7 g9 gA gB gC : Nat) (cs : Array Value) (ra rb rec : List (List Int)) (b7 b9 bA bB bC : Array Value) : Prop := ∃ (k : Nat) (K3 : Option Addr) (c3 : Nat) (W3 : Option Addr) (d3 : Nat) (K4 : Option Addr) (c4 : Nat) (W4 : Option Addr) (d4 : Nat), k ≤ 22 ∧ iv = .int .i64 (k : Nat) ∧ Hid (Blk wr g6 42 #[.slice K3 22 c3, .slice W3 0 d3, .slice K4 22 c4, .slice W4 0 d4]) ∧
  Hid (Blk wr g7 45 b7 ∧ Blk wr g9 48 b9 ∧ Blk wr gA 42 bA ∧ Blk wr gB 45 bB ∧ Blk wr gC 48 bC) ∧ Hid (On (R2 a b lo wr.heap.size) (fun x => Dk x K3 22 W3 0 (mendL ra rec k) [] ∧ Dk x K4 22 W4 0 (mendL rb rec k) []) wr) ∧ Hid (On S (fun x => Rws x cs.toList rec) wr) ∧ Hid (Below w.heap.size w wr) ∧ lo ≤ wr.heap.size ∧ Hid (On SL (fun x => Sl x 9 L n (EN fs)) wr)
theorem setRow_new (W : World) (cs cs1 : Array Value) (t : Nat) : (W.alloc (.cells cs t)).setRow W.heap.size cs1 = W.alloc (.cells cs1 t) := by
  have h : ∀ (f : Obj → Obj) (x : Obj), (W.heap.push x).modify W.heap.size f = W.heap.push (f x) := by
    intro f x
    apply Array.ext_getElem?
    intro i
    simp only [Array.getElem?_modify, Array.getElem?_push]
    by_cases e : i = W.heap.size
    · subst e; simp
    · simp [e, Ne.symm e]
  show ({ W with heap := (W.heap.push _).modify W.heap.size _ } : World) = { W with heap := W.heap.push _ }
  rw [h]
theorem wpList_store22 {ops : Array Oper} {rest : List Oper} {o : Oper} {a : Act} {W : World} {Q : Exit → Act → World → Prop} (hgd : o.guard = none) (x y : Operand) (ho : o.op = .store 165 x y) (k : Nat) (cells old : Array Value) (hx : a.eval x = .pointer (some ⟨k, 0, none⟩)) (hy : a.eval y = .agg cells) (hk : k = W.heap.size)
    (hs : cells.size = 22) (h1 : cells.all (·.oneCell') = true) (hold : old.size = 22) (hd : o.dst = none) (h : wpList Tryz.prog ops Q rest a (W.alloc (.cells cells 165))) : wpList Tryz.prog ops Q (o :: rest) a (W.alloc (.cells old 165)) := by
  subst hk
  refine wpList_store_row hgd 165 x y ho W.heap.size cells hx hy 165 old ?_ ?_ (by rw [hs, hold]) h1 ?_
  · show (W.heap.push _)[W.heap.size]? = _
    rw [Array.getElem?_push_size]
  · rw [hs]; kernel_rfl
  · rw [setRow_new, hd]; exact h
theorem agr_of {S : Nat → Prop} {w v v' : World} (h1 : Below w.heap.size w v) (h2 : Below w.heap.size w v') (hs : v.heap.size ≤ v'.heap.size) (hk : ∀ k, S k → k < v.heap.size → v'.heap[k]? = v.heap[k]?) : Agr S v v' :=
  ⟨h2.os.trans h1.os.symm, h2.tape.trans h1.tape.symm, h2.output.trans h1.output.symm, hs, hk⟩
theorem rc_first {w v7 v8 : World} {g10 c8 : Nat} {A8 : Option Addr} (K : Hid (Blk v7 g10 165 #[.slice none 0 0, .slice none 0 0, .slice none 0 0, .slice none 0 0, .slice none 0 0, .slice none 0 0, .slice none 0 0, .slice none 0 0, .slice none 0 0, .slice none 0 0, .slice none 0 0, .slice none 0 0, .slice none 0 0, .slice none 0 0, .slice none 0 0, .slice none 0 0, .slice none 0 0, .slice none 0 0, .slice none 0 0, .slice none 0 0, .slice none 0 0, .slice none 0 0])) (E : Below v7.heap.size v7 v8) (R : Row v8 v7.heap.size 2 1 A8 13 c8 headL) (f : Below w.heap.size w v7) (hg : g10 < v7.heap.size) (hw : w.heap.size ≤ g10) (fs : List En) :
    ∃ cs : Array Value, cs.size = 22 ∧ Blk (v8.setCell ⟨g10, 0, none⟩ (.slice A8 13 c8)) g10 165 cs ∧ On (Rg v7.heap.size (v8.setCell ⟨g10, 0, none⟩ (.slice A8 13 c8)).heap.size) (fun x => Rws x cs.toList (recK fs 0)) (v8.setCell ⟨g10, 0, none⟩ (.slice A8 13 c8)) ∧ (∀ k, k ≠ g10 → k < v7.heap.size → (v8.setCell ⟨g10, 0, none⟩ (.slice A8 13 c8)).heap[k]? = v7.heap[k]?) ∧ Below w.heap.size w (v8.setCell ⟨g10, 0, none⟩ (.slice A8 13 c8)) ∧ v7.heap.size ≤ (v8.setCell ⟨g10, 0, none⟩ (.slice A8 13 c8)).heap.size := by
  have hRw := (R.on.map (fun v hv => Rw.of_row hv)).far (Rg.no (.inl hg)) 0 (.slice A8 13 c8)
  refine ⟨_, ?_, (K.out.below E).set_ 0 _, fun w' hag => ?_, fun k hk hl => ?_, (bthen f E).setCell (p := ⟨g10, 0, none⟩) hw _, by simp only [size_set]; exact E.size⟩
  · simp
  · have h0 : Rws w' (Array.replicate 22 (.slice none 0 0)).toList (List.replicate 22 []) := by rw [Array.toList_replicate]; exact rws_nils w' 22
    have h1 := Rws.setA h0 (k := 0) (by simp) (hRw w' (hag.sub (Rg.sub (Nat.le_refl _) (by simp only [size_set]; exact Nat.le_refl _))))
    rw [recK_zero] at h1
    exact h1
  · rw [Below.heap_setCell v8 ⟨g10, 0, none⟩ _ k (fun e => hk e)]
    exact E.block k hl
theorem s4_far {w : World} {g k p : Nat} {u y0 y1 y2 y3 : Value} (h : w.cell? ⟨g, 0, none⟩ = some y0 ∧ w.cell? ⟨g, 1, none⟩ = some y1 ∧ w.cell? ⟨g, 2, none⟩ = some y2 ∧ w.cell? ⟨g, 3, none⟩ = some y3) (hk : k ≠ g) :
    (w.setCell ⟨k, p, none⟩ u).cell? ⟨g, 0, none⟩ = some y0 ∧ (w.setCell ⟨k, p, none⟩ u).cell? ⟨g, 1, none⟩ = some y1 ∧ (w.setCell ⟨k, p, none⟩ u).cell? ⟨g, 2, none⟩ = some y2 ∧ (w.setCell ⟨k, p, none⟩ u).cell? ⟨g, 3, none⟩ = some y3 := by
  obtain ⟨h0, h1, h2, h3⟩ := h
  exact ⟨(World.cell?_setCell_far _ _ _ _ hk).trans h0, (World.cell?_setCell_far _ _ _ _ hk).trans h1, (World.cell?_setCell_far _ _ _ _ hk).trans h2, (World.cell?_setCell_far _ _ _ _ hk).trans h3⟩
theorem s9_far {w : World} {g k p : Nat} {u y0 y1 y2 y3 y4 y5 y6 y7 y8 : Value} (h : w.cell? ⟨g, 0, none⟩ = some y0 ∧ w.cell? ⟨g, 1, none⟩ = some y1 ∧ w.cell? ⟨g, 2, none⟩ = some y2 ∧ w.cell? ⟨g, 3, none⟩ = some y3 ∧ w.cell? ⟨g, 4, none⟩ = some y4 ∧ w.cell? ⟨g, 5, none⟩ = some y5 ∧ w.cell? ⟨g, 6, none⟩ = some y6 ∧ w.cell? ⟨g, 7, none⟩ = some y7 ∧ w.cell? ⟨g, 8, none⟩ = some y8) (hk : k ≠ g) :
    (w.setCell ⟨k, p, none⟩ u).cell? ⟨g, 0, none⟩ = some y0 ∧ (w.setCell ⟨k, p, none⟩ u).cell? ⟨g, 1, none⟩ = some y1 ∧ (w.setCell ⟨k, p, none⟩ u).cell? ⟨g, 2, none⟩ = some y2 ∧ (w.setCell ⟨k, p, none⟩ u).cell? ⟨g, 3, none⟩ = some y3 ∧ (w.setCell ⟨k, p, none⟩ u).cell? ⟨g, 4, none⟩ = some y4 ∧ (w.setCell ⟨k, p, none⟩ u).cell? ⟨g, 5, none⟩ = some y5 ∧ (w.setCell ⟨k, p, none⟩ u).cell? ⟨g, 6, none⟩ = some y6 ∧ (w.setCell ⟨k, p, none⟩ u).cell? ⟨g, 7, none⟩ = some y7 ∧ (w.setCell ⟨k, p, none⟩ u).cell? ⟨g, 8, none⟩ = some y8 := by
  obtain ⟨h0, h1, h2, h3, h4, h5, h6, h7, h8⟩ := h
  exact ⟨(World.cell?_setCell_far _ _ _ _ hk).trans h0, (World.cell?_setCell_far _ _ _ _ hk).trans h1, (World.cell?_setCell_far _ _ _ _ hk).trans h2, (World.cell?_setCell_far _ _ _ _ hk).trans h3, (World.cell?_setCell_far _ _ _ _ hk).trans h4, (World.cell?_setCell_far _ _ _ _ hk).trans h5, (World.cell?_setCell_far _ _ _ _ hk).trans h6, (World.cell?_setCell_far _ _ _ _ hk).trans h7, (World.cell?_setCell_far _ _ _ _ hk).trans h8⟩
theorem rc_step {v10 v11 : World} {g10 p lo hi c11 m : Nat} {cs : Array Value} {rows : List (List Int)} {A11 : Option Addr} {zs : List Int} (K : Hid (Blk v10 g10 165 cs)) (H : Hid (On (Rg lo hi) (fun x => Rws x cs.toList rows) v10)) (E : Below v10.heap.size v10 v11) (R : Row v11 v10.heap.size 2 1 A11 m c11 zs) (hp : p < 22) (hpr : p < rows.length) (hg : g10 < lo) (hh : lo ≤ v10.heap.size ∧ hi ≤ v10.heap.size) :
    (cs.setIfInBounds p (.slice A11 m c11)).size = cs.size ∧ Blk (v11.setCell ⟨g10, p, none⟩ (.slice A11 m c11)) g10 165 (cs.setIfInBounds p (.slice A11 m c11)) ∧ On (Rg lo (v11.setCell ⟨g10, p, none⟩ (.slice A11 m c11)).heap.size) (fun x => Rws x (cs.setIfInBounds p (.slice A11 m c11)).toList (rows.set p zs)) (v11.setCell ⟨g10, p, none⟩ (.slice A11 m c11)) := by
  have hz := E.size
  have h1 := (H.out.below E).far (g := g10) (Rg.no (.inl hg)) p (.slice A11 m c11)
  have h2 := (R.on.map (fun v hv => Rw.of_row hv)).far (g := g10) (Rg.no (.inl (by omega))) p (.slice A11 m c11)
  refine ⟨by simp, (K.out.below E).set_ p _, ?_⟩
  exact ((h1.sub (Rg.sub (d := (v11.setCell ⟨g10, p, none⟩ (.slice A11 m c11)).heap.size) (Nat.le_refl _) (by simp only [size_set]; omega))).and (h2.sub (Rg.sub hh.1 (by simp only [size_set]; omega)))).map (fun v hv => hv.1.setA hpr hv.2)
set_option maxRecDepth 100000 in
set_option maxHeartbeats 8000000 in
theorem recovered_yes (KA WA KB WB : Option Addr) (cA dA cB dB : Nat) (ra rb : List (List Int)) (z : List Int) (fs : List En) (w : World) (hA : Dk w KA 22 WA 0 ra []) (hB : Dk w KB 22 WB 0 rb []) (ha0 : ra.getD 0 [] = withL headL) (hb0 : rb.getD 0 [] = withL headL) (ha1 : ra.getD 1 [] = z) (hb1 : rb.getD 1 [] = z) (hz : blankL z) (hR : ReadP ra rb fs) :
    Calls Tryz.prog 36 #[.agg #[.slice KA 22 cA, .slice WA 0 dA, .slice KB 22 cB, .slice WB 0 dB]] w (RetRec w fs) := by
  have HH := Lib.hid (And.intro ha0 (And.intro hb0 (And.intro ha1 (And.intro hb1 hz))))
  have HP := Lib.hid hR
  have hrla := hA.k.len
  have hrlb := hB.k.len
  have hf8 := hR.ok.1
  clear ha0 hb0 ha1 hb1 hz hR
  have HIA : Hid (On (Rg 0 w.heap.size) (fun x => Dk x KA 22 WA 0 ra []) w) := Lib.hid (On.below_of (fun _ hb => (hA).below hb))
  clear hA
  have HIB : Hid (On (Rg 0 w.heap.size) (fun x => Dk x KB 22 WB 0 rb []) w) := Lib.hid (On.below_of (fun _ hb => (hB).below hb))
  clear hB
  go_enter Tryz.func36, Tryz.ntmps36
  go_wp2_with fail
  refine calls_named ?_
  rintro v0 hv0
  have f0 : Below w.heap.size w v0 := by rw [hv0]; (repeat' (first | (with_reducible exact Below.refl _ _) | (with_reducible assumption) | (with_reducible refine Below.alloc ?_ ?_ _) | (with_reducible refine Below.drew ?_) | (with_reducible refine Below.setCell ?_ ?_ _) | (with_reducible refine bstep (by assumption) ?_ ?_) | (with_reducible exact Nat.le_refl _) | omega | (simp [*]; done) | (simp [*]; omega)))
  have z0 : w.heap.size + 4 ≤ v0.heap.size := by rw [hv0]; simp [size_set]
  have HT_0 : Hid (Blk v0 w.heap.size 42 #[.slice KA 22 cA, .slice WA 0 dA, .slice KB 22 cB, .slice WB 0 dB]) := by rw [hv0]; exact Lib.hid (((((Blk.new_at _ _ _ _ (by simp [size_set]))).alloc _).alloc _).alloc _)
  have HA_0 : Hid (Blk v0 (w.heap.size + 1) 42 #[.slice none 0 0, .slice none 0 0, .slice none 0 0, .slice none 0 0]) := by rw [hv0]; exact Lib.hid ((((Blk.new_at _ _ _ _ (by simp [size_set]))).alloc _).alloc _)
  have HB_0 : Hid (Blk v0 (w.heap.size + 2) 45 #[.int .i64 0, .int .i64 0, .int .i64 0, .slice none 0 0]) := by rw [hv0]; exact Lib.hid (((Blk.new_at _ _ _ _ (by simp [size_set]))).alloc _)
  have HC_0 : Hid (Blk v0 (w.heap.size + 3) 48 #[.int .i64 0, .int .i64 0, .slice none 0 0]) := by rw [hv0]; exact Lib.hid ((Blk.new_at _ _ _ _ (by simp [size_set])))
  clear hv0
  obtain ⟨gC, hgC⟩ : ∃ q, q = w.heap.size + 3 := ⟨_, rfl⟩
  rw [← hgC] at HC_0
  try rw [← hgC]
  have lgC : w.heap.size ≤ gC := by omega
  have mgC : gC < v0.heap.size := by omega
  have ngC : ∀ k, w.heap.size ≤ k → k ≠ gC → True := fun _ _ _ => trivial
  clear ngC
  obtain ⟨gB, hgB⟩ : ∃ q, q = w.heap.size + 2 := ⟨_, rfl⟩
  rw [← hgB] at HB_0
  try rw [← hgB]
  have lgB : w.heap.size ≤ gB := by omega
  have mgB : gB < v0.heap.size := by omega
  have ngB : ∀ k, w.heap.size ≤ k → k ≠ gB → True := fun _ _ _ => trivial
  clear ngB
  obtain ⟨gA, hgA⟩ : ∃ q, q = w.heap.size + 1 := ⟨_, rfl⟩
  rw [← hgA] at HA_0
  try rw [← hgA]
  have lgA : w.heap.size ≤ gA := by omega
  have mgA : gA < v0.heap.size := by omega
  have ngA : ∀ k, w.heap.size ≤ k → k ≠ gA → True := fun _ _ _ => trivial
  clear ngA
  obtain ⟨gT, hgT⟩ : ∃ q, q = w.heap.size := ⟨_, rfl⟩
  rw [← hgT] at HT_0
  try rw [← hgT]
  have lgT : w.heap.size ≤ gT := by omega
  have mgT : gT < v0.heap.size := by omega
  have ngT : ∀ k, w.heap.size ≤ k → k ≠ gT → True := fun _ _ _ => trivial
  clear ngT
  have nnTA : gT < gA := by omega
  have nnTB : gT < gB := by omega
  have nnAB : gA < gB := by omega
  have nnTC : gT < gC := by omega
  have nnAC : gA < gC := by omega
  have nnBC : gB < gC := by omega
  clear hgT
  clear hgA
  clear hgB
  clear hgC
  refine (keptOk_yes KA WA KB WB cA 0 dA cB 0 dB ra rb [] [] v0 ((HIA.out).inB f0 (fun _ hk => hk.2)).out ((HIB.out).inB f0 (fun _ hk => hk.2)).out).mono ?_
  rintro e v1 ⟨rfl, b1⟩
  have f1 := bthen f0 b1
  have z1 := b1.size
  have HT_1 := Lib.hid (HT_0.out.below b1)
  have HA_1 := Lib.hid (HA_0.out.below b1)
  have HB_1 := Lib.hid (HB_0.out.below b1)
  have HC_1 := Lib.hid (HC_0.out.below b1)
  clear HT_0 HA_0 HB_0 HC_0
  have lt_T := HT_1.out.lt
  obtain ⟨r_T0, r_T1, r_T2, r_T3⟩ := bc4 HT_1.out
  go_wp2_with fail
  refine (bothSynced_any KA WA KB WB cA dA cB dB 0 0 ra rb [] [] v1 ((HIA.out).inB f1 (fun _ hk => hk.2)).out ((HIB.out).inB f1 (fun _ hk => hk.2)).out (by decide) (by decide)).mono ?_
  rintro e v2 ⟨K1, c1, W1, d1, K2, c2, W2, d2, rfl, hO, b2⟩
  have f2 := bthen f1 b2
  have z2 := b2.size
  have HT_2 := Lib.hid (HT_1.out.below b2)
  have HA_2 := Lib.hid (HA_1.out.below b2)
  have HB_2 := Lib.hid (HB_1.out.below b2)
  have HC_2 := Lib.hid (HC_1.out.below b2)
  clear lt_T r_T0 r_T1 r_T2 r_T3
  clear HT_1 HA_1 HB_1 HC_1
  have HP_2 : Hid (On (Rg v1.heap.size v2.heap.size) (fun x => Dk x K1 22 W1 0 ra []) v2) := Lib.hid (hO.map (fun v hv => hv.1))
  have HQ_2 : Hid (On (Rg v1.heap.size v2.heap.size) (fun x => Dk x K2 22 W2 0 rb []) v2) := Lib.hid (hO.map (fun v hv => hv.2))
  clear hO
  clear HT_2
  go_wp2_with fail
  refine calls_named ?_
  rintro v3 hv3
  have f3 : Below w.heap.size w v3 := by rw [hv3]; (repeat' (first | (with_reducible exact Below.refl _ _) | (with_reducible assumption) | (with_reducible refine Below.alloc ?_ ?_ _) | (with_reducible refine Below.drew ?_) | (with_reducible refine Below.setCell ?_ ?_ _) | (with_reducible refine bstep (by assumption) ?_ ?_) | (with_reducible exact Nat.le_refl _) | omega | (simp [*]; done) | (simp [*]; omega)))
  have z3 : v2.heap.size + 1 ≤ v3.heap.size := by rw [hv3]; simp [size_set]
  have HA_3 : Hid (Blk v3 gA 42 #[.slice none 0 0, .slice none 0 0, .slice none 0 0, .slice none 0 0]) := by rw [hv3]; exact Lib.hid ((HA_2.out).alloc _)
  have HB_3 : Hid (Blk v3 gB 45 #[.int .i64 0, .int .i64 0, .int .i64 0, .slice none 0 0]) := by rw [hv3]; exact Lib.hid ((HB_2.out).alloc _)
  have HC_3 : Hid (Blk v3 gC 48 #[.int .i64 0, .int .i64 0, .slice none 0 0]) := by rw [hv3]; exact Lib.hid ((HC_2.out).alloc _)
  have HP_3 : Hid (On (Rg v1.heap.size v2.heap.size) (fun x => Dk x K1 22 W1 0 ra []) v3) := by rw [hv3]; exact Lib.hid ((HP_2.out).alloc _)
  have HQ_3 : Hid (On (Rg v1.heap.size v2.heap.size) (fun x => Dk x K2 22 W2 0 rb []) v3) := by rw [hv3]; exact Lib.hid ((HQ_2.out).alloc _)
  have H6_3 : Hid (Blk v3 v2.heap.size 42 #[.slice K1 22 c1, .slice W1 0 d1, .slice K2 22 c2, .slice W2 0 d2]) := by rw [hv3]; exact Lib.hid ((Blk.new_at _ _ _ _ (by simp [size_set])))
  clear hv3 HA_2 HB_2 HC_2 HP_2 HQ_2
  obtain ⟨g6, hg6⟩ : ∃ q, q = v2.heap.size := ⟨_, rfl⟩
  rw [← hg6] at H6_3
  try rw [← hg6]
  have lg6 : v2.heap.size ≤ g6 := by omega
  have mg6 : g6 < v3.heap.size := by omega
  have ng6 : ∀ k, v2.heap.size ≤ k → k ≠ g6 → True := fun _ _ _ => trivial
  clear ng6
  clear hg6
  refine (headIn_yes K1 W1 K2 W2 c1 d1 c2 d2 ra rb z v3 HP_3.out.out HQ_3.out.out HH.out.1 HH.out.2.1 HH.out.2.2.1 HH.out.2.2.2.1 HH.out.2.2.2.2).mono ?_
  rintro e v4 ⟨rfl, b4⟩
  have f4 := bthen f3 b4
  have z4 := b4.size
  have HA_4 := Lib.hid (HA_3.out.below b4)
  have HB_4 := Lib.hid (HB_3.out.below b4)
  have HC_4 := Lib.hid (HC_3.out.below b4)
  have HP_4 := Lib.hid (HP_3.out.below b4)
  have HQ_4 := Lib.hid (HQ_3.out.below b4)
  have H6_4 := Lib.hid (H6_3.out.below b4)
  clear HA_3 HB_3 HC_3 HP_3 HQ_3 H6_3
  have lt_6 := H6_4.out.lt
  obtain ⟨r_60, r_61, r_62, r_63⟩ := bc4 H6_4.out
  go_wp2_with fail
  refine calls_named ?_
  rintro v5 hv5
  have f5 : Below w.heap.size w v5 := by rw [hv5]; (repeat' (first | (with_reducible exact Below.refl _ _) | (with_reducible assumption) | (with_reducible refine Below.alloc ?_ ?_ _) | (with_reducible refine Below.drew ?_) | (with_reducible refine Below.setCell ?_ ?_ _) | (with_reducible refine bstep (by assumption) ?_ ?_) | (with_reducible exact Nat.le_refl _) | omega | (simp [*]; done) | (simp [*]; omega)))
  have z5 : v4.heap.size + 1 ≤ v5.heap.size := by rw [hv5]; simp [size_set]
  have HA_5 : Hid (Blk v5 gA 42 #[.slice none 0 0, .slice none 0 0, .slice none 0 0, .slice none 0 0]) := by rw [hv5]; exact Lib.hid ((HA_4.out).alloc _)
  have HB_5 : Hid (Blk v5 gB 45 #[.int .i64 0, .int .i64 0, .int .i64 0, .slice none 0 0]) := by rw [hv5]; exact Lib.hid ((HB_4.out).alloc _)
  have HC_5 : Hid (Blk v5 gC 48 #[.int .i64 0, .int .i64 0, .slice none 0 0]) := by rw [hv5]; exact Lib.hid ((HC_4.out).alloc _)
  have HP_5 : Hid (On (Rg v1.heap.size v2.heap.size) (fun x => Dk x K1 22 W1 0 ra []) v5) := by rw [hv5]; exact Lib.hid ((HP_4.out).alloc _)
  have HQ_5 : Hid (On (Rg v1.heap.size v2.heap.size) (fun x => Dk x K2 22 W2 0 rb []) v5) := by rw [hv5]; exact Lib.hid ((HQ_4.out).alloc _)
  have H6_5 : Hid (Blk v5 g6 42 #[.slice K1 22 c1, .slice W1 0 d1, .slice K2 22 c2, .slice W2 0 d2]) := by rw [hv5]; exact Lib.hid ((H6_4.out).alloc _)
  have H7_5 : Hid (Blk v5 v4.heap.size 45 #[.int .i64 0, .int .i64 0, .int .i64 0, .slice none 0 0]) := by rw [hv5]; exact Lib.hid ((Blk.new_at _ _ _ _ (by simp [size_set])))
  clear lt_6 r_60 r_61 r_62 r_63
  clear hv5 HA_4 HB_4 HC_4 HP_4 HQ_4 H6_4
  obtain ⟨g7, hg7⟩ : ∃ q, q = v4.heap.size := ⟨_, rfl⟩
  rw [← hg7] at H7_5
  try rw [← hg7]
  have lg7 : v4.heap.size ≤ g7 := by omega
  have mg7 : g7 < v5.heap.size := by omega
  have ng7 : ∀ k, v4.heap.size ≤ k → k ≠ g7 → True := fun _ _ _ => trivial
  clear ng7
  clear hg7
  refine (bookIn_yes K1 W1 K2 W2 none c1 d1 c2 d2 0 ra rb fs v5 HP_5.out.out HQ_5.out.out HP.out).mono ?_
  rintro e v6 ⟨L, c, rfl, RL, b6⟩
  obtain ⟨n, hn⟩ : ∃ q, q = fs.length := ⟨_, rfl⟩
  have HN := Lib.hid hn
  rw [← hn] at RL hf8
  try rw [← hn]
  clear hn
  have hRL := RL.on.map (fun v hv => hv.sl)
  have HCAP := Lib.hid RL.cap_le
  clear RL
  have f6 := bthen f5 b6
  have z6 := b6.size
  have HA_6 := Lib.hid (HA_5.out.below b6)
  have HB_6 := Lib.hid (HB_5.out.below b6)
  have HC_6 := Lib.hid (HC_5.out.below b6)
  have HP_6 := Lib.hid (HP_5.out.below b6)
  have HQ_6 := Lib.hid (HQ_5.out.below b6)
  have H6_6 := Lib.hid (H6_5.out.below b6)
  have H7_6 := Lib.hid (H7_5.out.below b6)
  clear HA_5 HB_5 HC_5 HP_5 HQ_5 H6_5 H7_5
  have HL_6 : Hid (On (Rg v5.heap.size v6.heap.size) (fun x => Sl x 9 L n (EN fs)) v6) := Lib.hid hRL
  clear hRL
  go_upto_region 9 with (show wpList _ _ _ (Oper.mk _ (Op.store _ _ _) _ _ _ _ :: _) _ _; refine wpList_store22 rfl _ _ rfl _ _ _ rfl rfl (by simp [size_set]) rfl (by simp [Value.oneCell']) rfl rfl ?_)
  obtain ⟨v7, hv7⟩ : ∃ x : World, x = ((v6.alloc (.cells #[.int .i64 0, .int .i64 0, .slice L n c] 48)).alloc (.cells #[.slice none 0 0, .slice none 0 0, .slice none 0 0, .slice none 0 0, .slice none 0 0, .slice none 0 0, .slice none 0 0, .slice none 0 0, .slice none 0 0, .slice none 0 0, .slice none 0 0, .slice none 0 0, .slice none 0 0, .slice none 0 0, .slice none 0 0, .slice none 0 0, .slice none 0 0, .slice none 0 0, .slice none 0 0, .slice none 0 0, .slice none 0 0, .slice none 0 0] 165)) := ⟨_, rfl⟩
  rw [← hv7]
  have f7 : Below w.heap.size w v7 := by rw [hv7]; (repeat' (first | (with_reducible exact Below.refl _ _) | (with_reducible assumption) | (with_reducible refine Below.alloc ?_ ?_ _) | (with_reducible refine Below.drew ?_) | (with_reducible refine Below.setCell ?_ ?_ _) | (with_reducible refine bstep (by assumption) ?_ ?_) | (with_reducible exact Nat.le_refl _) | omega | (simp [*]; done) | (simp [*]; omega)))
  have z7 : v6.heap.size + 2 ≤ v7.heap.size := by rw [hv7]; simp [size_set]
  have HA_7 : Hid (Blk v7 gA 42 #[.slice none 0 0, .slice none 0 0, .slice none 0 0, .slice none 0 0]) := by rw [hv7]; exact Lib.hid (((HA_6.out).alloc _).alloc _)
  have HB_7 : Hid (Blk v7 gB 45 #[.int .i64 0, .int .i64 0, .int .i64 0, .slice none 0 0]) := by rw [hv7]; exact Lib.hid (((HB_6.out).alloc _).alloc _)
  have HC_7 : Hid (Blk v7 gC 48 #[.int .i64 0, .int .i64 0, .slice none 0 0]) := by rw [hv7]; exact Lib.hid (((HC_6.out).alloc _).alloc _)
  have HP_7 : Hid (On (Rg v1.heap.size v2.heap.size) (fun x => Dk x K1 22 W1 0 ra []) v7) := by rw [hv7]; exact Lib.hid (((HP_6.out).alloc _).alloc _)
  have HQ_7 : Hid (On (Rg v1.heap.size v2.heap.size) (fun x => Dk x K2 22 W2 0 rb []) v7) := by rw [hv7]; exact Lib.hid (((HQ_6.out).alloc _).alloc _)
  have H6_7 : Hid (Blk v7 g6 42 #[.slice K1 22 c1, .slice W1 0 d1, .slice K2 22 c2, .slice W2 0 d2]) := by rw [hv7]; exact Lib.hid (((H6_6.out).alloc _).alloc _)
  have H7_7 : Hid (Blk v7 g7 45 #[.int .i64 0, .int .i64 0, .int .i64 0, .slice none 0 0]) := by rw [hv7]; exact Lib.hid (((H7_6.out).alloc _).alloc _)
  have HL_7 : Hid (On (Rg v5.heap.size v6.heap.size) (fun x => Sl x 9 L n (EN fs)) v7) := by rw [hv7]; exact Lib.hid (((HL_6.out).alloc _).alloc _)
  have H9_7 : Hid (Blk v7 v6.heap.size 48 #[.int .i64 0, .int .i64 0, .slice L n c]) := by rw [hv7]; exact Lib.hid (((Blk.new_at _ _ _ _ (by simp [size_set]))).alloc _)
  have H10_7 : Hid (Blk v7 (v6.heap.size + 1) 165 #[.slice none 0 0, .slice none 0 0, .slice none 0 0, .slice none 0 0, .slice none 0 0, .slice none 0 0, .slice none 0 0, .slice none 0 0, .slice none 0 0, .slice none 0 0, .slice none 0 0, .slice none 0 0, .slice none 0 0, .slice none 0 0, .slice none 0 0, .slice none 0 0, .slice none 0 0, .slice none 0 0, .slice none 0 0, .slice none 0 0, .slice none 0 0, .slice none 0 0]) := by rw [hv7]; exact Lib.hid ((Blk.new_at _ _ _ _ (by simp [size_set])))
  clear hv7 HA_6 HB_6 HC_6 HP_6 HQ_6 H6_6 H7_6 HL_6
  obtain ⟨g10, hg10⟩ : ∃ q, q = v6.heap.size + 1 := ⟨_, rfl⟩
  rw [← hg10] at H10_7
  try rw [← hg10]
  have lg10 : v6.heap.size ≤ g10 := by omega
  have mg10 : g10 < v7.heap.size := by omega
  have ng10 : ∀ k, v6.heap.size ≤ k → k ≠ g10 → True := fun _ _ _ => trivial
  clear ng10
  obtain ⟨g9, hg9⟩ : ∃ q, q = v6.heap.size := ⟨_, rfl⟩
  rw [← hg9] at H9_7
  try rw [← hg9]
  have lg9 : v6.heap.size ≤ g9 := by omega
  have mg9 : g9 < v7.heap.size := by omega
  have ng9 : ∀ k, v6.heap.size ≤ k → k ≠ g9 → True := fun _ _ _ => trivial
  clear ng9
  have nn910 : g9 < g10 := by omega
  clear hg9
  clear hg10
  have lt_7 := H7_7.out.lt
  obtain ⟨r_70, r_71, r_72, r_73⟩ := bc4 H7_7.out
  have lt_10 := H10_7.out.lt
  obtain ⟨r_100, r_101, r_102, r_103, r_104, r_105, r_106, r_107, r_108, r_109, r_1010, r_1011, r_1012, r_1013, r_1014, r_1015, r_1016, r_1017, r_1018, r_1019, r_1020, r_1021⟩ := bc22 H10_7.out
  have z_100 := H10_7.out.frozen 0
  have hE7 : ∀ W : World, Below v7.heap.size v7 W → W.cell? ⟨g7, 0, none⟩ = some (.int .i64 0) ∧ W.cell? ⟨g7, 1, none⟩ = some (.int .i64 0) ∧ W.cell? ⟨g7, 2, none⟩ = some (.int .i64 0) ∧ W.cell? ⟨g7, 3, none⟩ = some (.slice none 0 0) := fun W hb => ⟨(H7_7.out.below hb).cell 0, (H7_7.out.below hb).cell 1, (H7_7.out.below hb).cell 2, (H7_7.out.below hb).cell 3⟩
  have HEH7 := Lib.hid hE7
  clear hE7
  have n107 : g10 ≠ g7 := by omega
  go_cut [] from 37 (fun wx => ∃ cs : Array Value, cs.size = 22 ∧ Blk wx g10 165 cs ∧ On (Rg v7.heap.size wx.heap.size) (fun x => Rws x cs.toList (recK fs 0)) wx ∧ (∀ k, k ≠ g10 → k < v7.heap.size → wx.heap[k]? = v7.heap[k]?) ∧ Below w.heap.size w wx ∧ v7.heap.size ≤ wx.heap.size)
  case first =>
    go_region_held_law (fun w' => w'.cell? ⟨g7, 0, none⟩ = some (.int .i64 0) ∧ w'.cell? ⟨g7, 1, none⟩ = some (.int .i64 0) ∧ w'.cell? ⟨g7, 2, none⟩ = some (.int .i64 0) ∧ w'.cell? ⟨g7, 3, none⟩ = some (.slice none 0 0)) (first | with_reducible assumption | with_reducible exact HEH7.out _ (Below.drew (Below.refl _ _)) | with_reducible exact s4_far hS8 n107) ((go_at_call 51; refine (headRow_zero none 0 _).mono ?_; rintro e v8 ⟨A8, c8, rfl, R8, b8⟩; have E8 : Below v7.heap.size v7 v8 := (by first | with_reducible exact b8 | with_reducible exact hd_dr b8); have R8b : Row v8 v7.heap.size 2 1 A8 13 c8 headL := (by exact R8); have hS8 := HEH7.out v8 E8; have K8 := H10_7.out.below E8; have x0 := K8.cell 0; have y0 := K8.frozen 0; have yl := K8.lt))
    all_goals
      go_wp2_with fail
      go_meet
      exact rc_first H10_7 E8 R8b f7 (by omega) (by omega) fs
  case rest =>
    obtain ⟨cs, hcs, K10, HRW, hkeep, f8, z8⟩ := hcut
    rename World => v8
    clear HEH7 n107
    clear lt_7 r_70 r_71 r_72 r_73 lt_10 r_100 r_101 r_102 r_103 r_104 r_105 r_106 r_107 r_108 r_109 r_1010 r_1011 r_1012 r_1013 r_1014 r_1015 r_1016 r_1017 r_1018 r_1019 r_1020 r_1021 z_100
    have H6_8 : Hid (Blk v8 g6 42 #[.slice K1 22 c1, .slice W1 0 d1, .slice K2 22 c2, .slice W2 0 d2]) := Lib.hid ((hkeep g6 (by omega) H6_7.out.lt).trans H6_7.out)
    have H7_8 : Hid (Blk v8 g7 45 #[.int .i64 0, .int .i64 0, .int .i64 0, .slice none 0 0]) := Lib.hid ((hkeep g7 (by omega) H7_7.out.lt).trans H7_7.out)
    have H9_8 : Hid (Blk v8 g9 48 #[.int .i64 0, .int .i64 0, .slice L n c]) := Lib.hid ((hkeep g9 (by omega) H9_7.out.lt).trans H9_7.out)
    have HA_8 : Hid (Blk v8 gA 42 #[.slice none 0 0, .slice none 0 0, .slice none 0 0, .slice none 0 0]) := Lib.hid ((hkeep gA (by omega) HA_7.out.lt).trans HA_7.out)
    have HB_8 : Hid (Blk v8 gB 45 #[.int .i64 0, .int .i64 0, .int .i64 0, .slice none 0 0]) := Lib.hid ((hkeep gB (by omega) HB_7.out.lt).trans HB_7.out)
    have HC_8 : Hid (Blk v8 gC 48 #[.int .i64 0, .int .i64 0, .slice none 0 0]) := Lib.hid ((hkeep gC (by omega) HC_7.out.lt).trans HC_7.out)
    have HP_8 : Hid (On (Rg v1.heap.size v2.heap.size) (fun x => Dk x K1 22 W1 0 ra []) v8) := Lib.hid (HP_7.out.agr (agr_of f7 f8 z8 (fun k hk hl => hkeep k (fun e => by subst e; exact absurd hk (Rg.no (by omega))) hl)))
    have HQ_8 : Hid (On (Rg v1.heap.size v2.heap.size) (fun x => Dk x K2 22 W2 0 rb []) v8) := Lib.hid (HQ_7.out.agr (agr_of f7 f8 z8 (fun k hk hl => hkeep k (fun e => by subst e; exact absurd hk (Rg.no (by omega))) hl)))
    have HL_8 : Hid (On (Rg v5.heap.size v6.heap.size) (fun x => Sl x 9 L n (EN fs)) v8) := Lib.hid (HL_7.out.agr (agr_of f7 f8 z8 (fun k hk hl => hkeep k (fun e => by subst e; exact absurd hk (Rg.no (by omega))) hl)))
    have HK10 := Lib.hid K10
    have HRWS := Lib.hid HRW
    have HF8 := Lib.hid f8
    clear K10 HRW hkeep H6_7 H7_7 H9_7 HA_7 HB_7 HC_7 HP_7 HQ_7 HL_7 H10_7
    have lt_9 := H9_8.out.lt
    obtain ⟨r_90, r_91, r_92⟩ := bc3 H9_8.out
    go_wp2_with fail
    clear lt_9 r_90 r_91 r_92
    go_loopw [46] (fun iv wr => RC1 iv wr w n v7.heap.size g6 g7 g9 g10 gA gB gC fs (#[.slice K1 22 c1, .slice W1 0 d1, .slice K2 22 c2, .slice W2 0 d2]) (#[.int .i64 0, .int .i64 0, .int .i64 0, .slice none 0 0]) (#[.int .i64 0, .int .i64 0, .slice L n c]) (#[.slice none 0 0, .slice none 0 0, .slice none 0 0, .slice none 0 0]) (#[.int .i64 0, .int .i64 0, .int .i64 0, .slice none 0 0]) (#[.int .i64 0, .int .i64 0, .slice none 0 0]) ∧ Hid (On (Rg v1.heap.size v2.heap.size) (fun x => Dk x K1 22 W1 0 ra [] ∧ Dk x K2 22 W2 0 rb []) wr) ∧ Hid (On (Rg v5.heap.size v6.heap.size) (fun x => Sl x 9 L n (EN fs)) wr)) (fun iv _ => n - (intOf iv).toNat)
    case atStart => unfold RC1; exact ⟨⟨0, cs, Nat.zero_le _, rfl, hcs, HK10, HRWS, Lib.hid ⟨H6_8.out, H7_8.out, H9_8.out, HA_8.out, HB_8.out, HC_8.out⟩, HF8, z8⟩, Lib.hid (HP_8.out.and HQ_8.out), HL_8⟩
    case round =>
      clear HK10 HRWS HF8 H6_8 H7_8 H9_8 HA_8 HB_8 HC_8 HP_8 HQ_8 HL_8
      unfold RC1 at hrel
      obtain ⟨⟨k, cs1, hk, rfl, hcs1, H10, HRW, HBX, HF, hlo⟩, HPQ, HL⟩ := hrel
      by_cases hlt : k < n
      · have hlt' : (k : Int) < (n : Int) := by omega
        obtain ⟨bL, oL, rfl, hbL, q0, q1, q2, q3, q4, q5, q6, q7, q8⟩ := ent_cells HL.out.out HN.out.symm hlt
        have hek := HP.out.ok.2.1 k (by rw [← HN.out]; exact hlt)
        have hset := Lib.hid (recK_set fs k (by rw [← HN.out]; exact hlt) (by omega))
        obtain ⟨en, hen⟩ : ∃ q, q = fs.getD k default := ⟨_, rfl⟩
        rw [← hen] at q0 q1 q2 q3 q4 q5 q6 q7 q8 hek hset
        obtain ⟨ex, et, ec, es_, ek, ea, eb, eg, eh⟩ := en
        have hok := Lib.hid (entP_ok hek (by omega))
        have hex := hek.1
        simp only at q0 q1 q2 q3 q4 q5 q6 q7 q8 hok hex
        subst hex
        obtain ⟨p, hp⟩ : ∃ q, q = 3 + k := ⟨_, rfl⟩
        have HPP := Lib.hid hp
        have hp22 : p < 22 := by omega
        have hp22i : (p : Int) < 22 := by omega
        rw [← hp] at hset
        clear hek hen hp
        obtain ⟨v9, hv9⟩ : ∃ x, x = wr := ⟨_, rfl⟩
        rw [← hv9] at H10 HRW HBX HF hlo HPQ HL hbL q0 q1 q2 q3 q4 q5 q6 q7 q8 ⊢
        have f9 := HF.out
        have z9 := hlo
        clear hv9 HF hlo
        go_upto_region 13 with fail
        obtain ⟨v10, hv10⟩ : ∃ x : World, x = (v9.alloc (.cells #[.int .i64 ((k : Int) + 1), .int .i64 et, .int .i64 ec, .int .i64 es_, .int .i64 ek, .int .i64 ea, .int .i64 eb, .int .i64 eg, .int .i64 eh] 76)) := ⟨_, rfl⟩
        rw [← hv10]
        have f10 : Below w.heap.size w v10 := by rw [hv10]; (repeat' (first | (with_reducible exact Below.refl _ _) | (with_reducible assumption) | (with_reducible refine Below.alloc ?_ ?_ _) | (with_reducible refine Below.drew ?_) | (with_reducible refine Below.setCell ?_ ?_ _) | (with_reducible refine bstep (by assumption) ?_ ?_) | (with_reducible exact Nat.le_refl _) | omega | (simp [*]; done) | (simp [*]; omega)))
        have z10 : v9.heap.size + 1 ≤ v10.heap.size := by rw [hv10]; simp [size_set]
        have HE_10 : Hid (Blk v10 v9.heap.size 76 #[.int .i64 ((k : Int) + 1), .int .i64 et, .int .i64 ec, .int .i64 es_, .int .i64 ek, .int .i64 ea, .int .i64 eb, .int .i64 eg, .int .i64 eh]) := by rw [hv10]; exact Lib.hid ((Blk.new_at _ _ _ _ (by simp [size_set])))
        have H10b : Hid (Blk v10 g10 165 cs1) := by rw [hv10]; exact Lib.hid (H10.out.alloc _)
        have HRWb : Hid (On (Rg v7.heap.size v9.heap.size) (fun x => Rws x cs1.toList (recK fs k)) v10) := by rw [hv10]; exact Lib.hid (HRW.out.alloc _)
        have e10 : Below v9.heap.size v9 v10 := by rw [hv10]; exact (Below.refl _ _).alloc (Nat.le_refl _) _
        clear q0 q1 q2 q3 q4 q5 q6 q7 q8
        clear hv10
        obtain ⟨gE, hgE⟩ : ∃ q, q = v9.heap.size := ⟨_, rfl⟩
        rw [← hgE] at HE_10
        try rw [← hgE]
        have lgE : v9.heap.size ≤ gE := by omega
        have mgE : gE < v10.heap.size := by omega
        have ngE : ∀ k, v9.heap.size ≤ k → k ≠ gE → True := fun _ _ _ => trivial
        clear ngE
        clear hgE
        have lt_E := HE_10.out.lt
        obtain ⟨r_E0, r_E1, r_E2, r_E3, r_E4, r_E5, r_E6, r_E7, r_E8⟩ := bc9 HE_10.out
        obtain ⟨xp, hxp⟩ := H10b.out.has (i := p) (by omega)
        have zp := H10b.out.frozen p
        have lp := H10b.out.lt
        have hE : ∀ W : World, Below v10.heap.size v10 W → W.cell? ⟨gE, 0, none⟩ = some (.int .i64 ((k : Int) + 1)) ∧ W.cell? ⟨gE, 1, none⟩ = some (.int .i64 et) ∧ W.cell? ⟨gE, 2, none⟩ = some (.int .i64 ec) ∧ W.cell? ⟨gE, 3, none⟩ = some (.int .i64 es_) ∧ W.cell? ⟨gE, 4, none⟩ = some (.int .i64 ek) ∧ W.cell? ⟨gE, 5, none⟩ = some (.int .i64 ea) ∧ W.cell? ⟨gE, 6, none⟩ = some (.int .i64 eb) ∧ W.cell? ⟨gE, 7, none⟩ = some (.int .i64 eg) ∧ W.cell? ⟨gE, 8, none⟩ = some (.int .i64 eh) := fun W hb => ⟨(HE_10.out.below hb).cell 0, (HE_10.out.below hb).cell 1, (HE_10.out.below hb).cell 2, (HE_10.out.below hb).cell 3, (HE_10.out.below hb).cell 4, (HE_10.out.below hb).cell 5, (HE_10.out.below hb).cell 6, (HE_10.out.below hb).cell 7, (HE_10.out.below hb).cell 8⟩
        have HEH := Lib.hid hE
        clear hE
        have n10E : g10 ≠ gE := by omega
        go_region_held_law (fun w' => w'.cell? ⟨gE, 0, none⟩ = some (.int .i64 ((k : Int) + 1)) ∧ w'.cell? ⟨gE, 1, none⟩ = some (.int .i64 et) ∧ w'.cell? ⟨gE, 2, none⟩ = some (.int .i64 ec) ∧ w'.cell? ⟨gE, 3, none⟩ = some (.int .i64 es_) ∧ w'.cell? ⟨gE, 4, none⟩ = some (.int .i64 ek) ∧ w'.cell? ⟨gE, 5, none⟩ = some (.int .i64 ea) ∧ w'.cell? ⟨gE, 6, none⟩ = some (.int .i64 eb) ∧ w'.cell? ⟨gE, 7, none⟩ = some (.int .i64 eg) ∧ w'.cell? ⟨gE, 8, none⟩ = some (.int .i64 eh)) (first | with_reducible assumption | with_reducible exact HEH.out _ (Below.drew (Below.refl _ _)) | with_reducible exact s9_far hS11 n10E) (first | (go_at_call 84; refine (slotOf_p k p _ (by omega) HPP.out).mono ?_; rintro e w' ⟨rfl, rfl⟩) | (go_at_call 83; refine (slotRow_yes ((k : Int) + 1) et ec es_ ek ea eb eg eh _ hok.out).mono ?_; rintro e v11 ⟨A11, c11, rfl, R11, b11⟩; have E11 : Below v10.heap.size v10 v11 := (by first | with_reducible exact b11 | with_reducible exact hd_dr b11); have R11b : Row v11 v10.heap.size 2 1 A11 11 c11 [(k : Int) + 1, et, ec, es_, ek, ea, eb, eg, eh, (k : Int) + 1, (k : Int) + 1] := (by exact R11); have hS11 := HEH.out v11 E11; have K11 := H10b.out.below E11; obtain ⟨xp2, hxp2⟩ := K11.has (i := p) (by omega); have zp2 := K11.frozen p; have lp2 := K11.lt))
        all_goals
          rename_i hHx
          clear hHx hS11
          go_wp2_with fail
          have hfin := rc_step (g10 := g10) (p := p) (lo := v7.heap.size) H10b HRWb E11 R11b hp22 (by rw [recK_len fs k (by rw [← HN.out]; omega) (by omega)]; exact hp22) (by omega) (by omega)
          refine ⟨⟨?_, Lib.hid (((HPQ.out.below e10).below E11).far (g := g10) (Rg.no (by omega)) p _), Lib.hid (((HL.out.below e10).below E11).far (g := g10) (Rg.no (by omega)) p _)⟩, by simp [intOf]; omega⟩
          unfold RC1
          refine ⟨k + 1, _, by omega, by go_num, hfin.1.trans hcs1, Lib.hid hfin.2.1, Lib.hid ?_, Lib.hid ?_, Lib.hid ((bthen f10 E11).setCell (p := ⟨g10, p, none⟩) (show w.heap.size ≤ g10 by omega) _), by have := E11.size; simp only [size_set]; omega⟩
          · have h5 := hfin.2.2
            rw [show [(k : Int) + 1, et, ec, es_, ek, ea, eb, eg, eh, (k : Int) + 1, (k : Int) + 1] = slotL ⟨(k : Int) + 1, et, ec, es_, ek, ea, eb, eg, eh⟩ from rfl, hset.out] at h5
            exact h5
          · obtain ⟨h6, h7, h9, hA, hB, hC⟩ := HBX.out
            have q := bthen e10 E11
            exact ⟨(h6.below q).far (p := ⟨g10, p, none⟩) (by show g6 ≠ g10; omega) _, (h7.below q).far (p := ⟨g10, p, none⟩) (by show g7 ≠ g10; omega) _, (h9.below q).far (p := ⟨g10, p, none⟩) (by show g9 ≠ g10; omega) _, (hA.below q).far (p := ⟨g10, p, none⟩) (by show gA ≠ g10; omega) _, (hB.below q).far (p := ⟨g10, p, none⟩) (by show gB ≠ g10; omega) _, (hC.below q).far (p := ⟨g10, p, none⟩) (by show gC ≠ g10; omega) _⟩
      · have hkn : k = n := by omega
        have hnl : ¬ ((k : Int) < (n : Int)) := by omega
        have hrec := Lib.hid (recK_len fs n (by rw [← HN.out]; exact Nat.le_refl _) (by omega))
        obtain ⟨rec, hrc⟩ : ∃ q, q = recK fs n := ⟨_, rfl⟩
        have HRC := Lib.hid hrc
        rw [hkn] at HRW
        rw [← hrc] at HRW hrec
        obtain ⟨h6, h7, h9, hA, hB, hC⟩ := HBX.out
        obtain ⟨v9, hv9⟩ : ∃ x, x = wr := ⟨_, rfl⟩
        rw [← hv9] at H10 HRW HF hlo HPQ HL h6 h7 h9 hA hB hC ⊢
        have HI := Lib.hid hcs1
        clear hv9 HBX hrc
        go_upto_region 16 with (show wpList _ _ _ (Oper.mk _ (Op.load 165 _) _ _ _ _ :: _) _ _; refine wpList_load_row rfl 165 _ rfl g10 rfl 165 cs1 (0, 0) _ H10.out Tryz.underlying165 rfl (by rw [HI.out]; kernel_rfl) ?_)
        obtain ⟨lo, hlo9⟩ : ∃ q, q = v9.heap.size := ⟨_, rfl⟩
        have HLO := Lib.hid hlo9
        clear hlo9
        go_loopw [58] (fun iv wr2 => RC2 iv wr2 w L n fs (Rg v5.heap.size v6.heap.size) (Rg v7.heap.size v9.heap.size) v1.heap.size v2.heap.size lo g6 g7 g9 gA gB gC cs1 ra rb rec (#[.int .i64 0, .int .i64 0, .int .i64 0, .slice none 0 0]) (#[.int .i64 0, .int .i64 0, .slice L n c]) (#[.slice none 0 0, .slice none 0 0, .slice none 0 0, .slice none 0 0]) (#[.int .i64 0, .int .i64 0, .int .i64 0, .slice none 0 0]) (#[.int .i64 0, .int .i64 0, .slice none 0 0])) (fun iv _ => 22 - (intOf iv).toNat)
        case atStart => unfold RC2; exact ⟨0, _, _, _, _, _, _, _, _, Nat.zero_le _, rfl, Lib.hid h6, Lib.hid ⟨h7, h9, hA, hB, hC⟩, Lib.hid ((by rw [mendL_zero, mendL_zero]; exact HPQ.out : On _ _ _).sub R2.old), HRW, HF, by rw [HLO.out]; exact Nat.le_refl _, HL⟩
        case round =>
          have hlv : lo ≤ v9.heap.size ∧ v9.heap.size ≤ lo := by rw [HLO.out]; exact ⟨Nat.le_refl _, Nat.le_refl _⟩
          clear HRW HF h6 h7 h9 hA hB hC HPQ H10 HL
          unfold RC2 at hrel
          obtain ⟨k, K3, c3, W3, d3, K4, c4, W4, d4, hk, rfl, H6, HBX, HD, HRW, HF, hsz, HL⟩ := hrel
          by_cases hlt : k < 22
          · have hlt' : (k : Int) < 22 := by omega
            obtain ⟨xv, hxv, hRw⟩ := HRW.out.out.2 k (by rw [hrec.out]; exact hlt)
            have hget : cs1[k]? = some xv := by rw [← Array.getElem?_toList]; exact hxv
            have hRw2 := hRw
            obtain ⟨A, cx, hxe, -⟩ := hRw
            subst hxe
            have hmem : rec.getD k [] ∈ rec := by
              have hl := hrec.out
              rw [show rec.getD k [] = rec[k]'(by omega) by simp [List.getD, show k < rec.length by omega]]
              exact List.getElem_mem _
            have hrow := recK_row HP.out.ok n (by rw [← HN.out]; exact Nat.le_refl _) _ (by rw [← HRC.out]; exact hmem)
            have hsa := Lib.hid (mendL_set ra rec k (by rw [hrec.out]; exact hrla) (by rw [hrec.out]; exact hlt))
            have hsb := Lib.hid (mendL_set rb rec k (by rw [hrec.out]; exact hrlb) (by rw [hrec.out]; exact hlt))
            obtain ⟨zs, hzs⟩ : ∃ q, q = rec.getD k [] := ⟨_, rfl⟩
            rw [← hzs] at hRw2 hget hrow hsa hsb
            obtain ⟨m, hm⟩ : ∃ q, q = zs.length := ⟨_, rfl⟩
            have hmz := Lib.hid hm
            rw [← hm] at hRw2 hget
            have hidx := idx22 cs1 k _ hlt hget
            have hrw := Lib.hid hrow
            have hRX := Lib.hid hRw2
            clear hxv hmem hrow hm hzs hRw2 hget
            have x0 := H6.out.cell 0
            have x1 := H6.out.cell 1
            have x2 := H6.out.cell 2
            have x3 := H6.out.cell 3
            have lt6 := H6.out.lt
            go_wp2_with (go_at_call 49; refine (mendedAt_any K3 W3 K4 W4 A c3 d3 c4 d4 m cx (mendL ra rec k) (mendL rb rec k) k zs _ HD.out.out.1 HD.out.out.2 hRX.out hlt hrw.out.1 hrw.out.2).mono ?_; rintro e v10 ⟨K5, c5, W5, d5, K6, c6, W6, d6, rfl, hO, b10⟩; have K6b := H6.out.below b10; have y0 := K6b.cell 0; have y1 := K6b.cell 1; have y2 := K6b.cell 2; have y3 := K6b.cell 3; have yz := K6b.frozen 0; have yz1 := K6b.frozen 1; have yz2 := K6b.frozen 2; have yz3 := K6b.frozen 3)
            all_goals
              have hvz := b10.size
              refine ⟨?_, by simp [intOf]; omega⟩
              unfold RC2
              refine ⟨k + 1, K5, c5, W5, d5, K6, c6, W6, d6, by omega, by go_num, Lib.hid ((((K6b.set_ 0 _).set_ 1 _).set_ 2 _).set_ 3 _), Lib.hid ?_, Lib.hid ?_, Lib.hid ?_, Lib.hid ?_, by simp only [size_set]; omega, Lib.hid ?_⟩
              · obtain ⟨h7, h9, hA, hB, hC⟩ := HBX.out
                exact ⟨(((((h7.below b10).far (p := ⟨g6, 0, none⟩) (by show g7 ≠ g6; omega) _).far (p := ⟨g6, 1, none⟩) (by show g7 ≠ g6; omega) _).far (p := ⟨g6, 2, none⟩) (by show g7 ≠ g6; omega) _).far (p := ⟨g6, 3, none⟩) (by show g7 ≠ g6; omega) _), (((((h9.below b10).far (p := ⟨g6, 0, none⟩) (by show g9 ≠ g6; omega) _).far (p := ⟨g6, 1, none⟩) (by show g9 ≠ g6; omega) _).far (p := ⟨g6, 2, none⟩) (by show g9 ≠ g6; omega) _).far (p := ⟨g6, 3, none⟩) (by show g9 ≠ g6; omega) _), (((((hA.below b10).far (p := ⟨g6, 0, none⟩) (by show gA ≠ g6; omega) _).far (p := ⟨g6, 1, none⟩) (by show gA ≠ g6; omega) _).far (p := ⟨g6, 2, none⟩) (by show gA ≠ g6; omega) _).far (p := ⟨g6, 3, none⟩) (by show gA ≠ g6; omega) _), (((((hB.below b10).far (p := ⟨g6, 0, none⟩) (by show gB ≠ g6; omega) _).far (p := ⟨g6, 1, none⟩) (by show gB ≠ g6; omega) _).far (p := ⟨g6, 2, none⟩) (by show gB ≠ g6; omega) _).far (p := ⟨g6, 3, none⟩) (by show gB ≠ g6; omega) _), (((((hC.below b10).far (p := ⟨g6, 0, none⟩) (by show gC ≠ g6; omega) _).far (p := ⟨g6, 1, none⟩) (by show gC ≠ g6; omega) _).far (p := ⟨g6, 2, none⟩) (by show gC ≠ g6; omega) _).far (p := ⟨g6, 3, none⟩) (by show gC ≠ g6; omega) _)⟩
              · have hq := (hO.map (fun v hv => (by have h5 := hv; rw [hsa.out, hsb.out] at h5; exact h5 : Dk v K5 22 W5 0 (mendL ra rec (k + 1)) [] ∧ Dk v K6 22 W6 0 (mendL rb rec (k + 1)) [])))
                have hr := hq.sub (R2.rg (a := v1.heap.size) (b := v2.heap.size) (lo := lo) (hi := v10.heap.size) (by omega) (Nat.le_refl _))
                have hn7 : ¬ R2 v1.heap.size v2.heap.size lo v10.heap.size g6 := R2.no (by omega) (by omega)
                have hs := (((hr.far hn7 0 (.slice K5 22 c5)).far hn7 1 (.slice W5 0 d5)).far hn7 2 (.slice K6 22 c6)).far hn7 3 (.slice W6 0 d6)
                exact hs.sub (R2.sub (by simp only [size_set]; exact Nat.le_refl _))
              · have hn8 : ¬ Rg v7.heap.size v9.heap.size g6 := Rg.no (by omega)
                exact ((((HRW.out.below b10).far hn8 0 _).far hn8 1 _).far hn8 2 _).far hn8 3 _
              · exact ((((bthen HF.out b10).setCell (p := ⟨g6, 0, none⟩) (show w.heap.size ≤ g6 by omega) _).setCell (p := ⟨g6, 1, none⟩) (show w.heap.size ≤ g6 by omega) _).setCell (p := ⟨g6, 2, none⟩) (show w.heap.size ≤ g6 by omega) _).setCell (p := ⟨g6, 3, none⟩) (show w.heap.size ≤ g6 by omega) _
              · have hn8 : ¬ Rg v5.heap.size v6.heap.size g6 := Rg.no (by omega)
                exact ((((HL.out.below b10).far hn8 0 _).far hn8 1 _).far hn8 2 _).far hn8 3 _
          · have ea : mendL ra rec k = diskL [7] fs := by rw [show k = rec.length by have := hrec.out; omega, mendL_all _ _ (by rw [hrec.out]; exact hrla), HRC.out, HN.out, recK_disk _ (by rw [← HN.out]; omega)]
            have eb : mendL rb rec k = diskL [7] fs := by rw [show k = rec.length by have := hrec.out; omega, mendL_all _ _ (by rw [hrec.out]; exact hrlb), HRC.out, HN.out, recK_disk _ (by rw [← HN.out]; omega)]
            rw [ea, eb] at HD
            clear ea eb HRW
            obtain ⟨h7, h9, hA, hB, hC⟩ := HBX.out
            go_wp2_with fail
            have x0 := H6.out.cell 0
            have x1 := H6.out.cell 1
            have x2 := H6.out.cell 2
            have x3 := H6.out.cell 3
            have lt6 := H6.out.lt
            have y0 := h7.cell 0
            have y1 := h7.cell 1
            have y2 := h7.cell 2
            have y3 := h7.cell 3
            have lt7 := h7.lt
            have u0 := h9.cell 0
            have u1 := h9.cell 1
            have u2 := h9.cell 2
            have lt9 := h9.lt
            have qA0 := hA.cell 0
            have zA0 := hA.frozen 0
            have qA1 := hA.cell 1
            have zA1 := hA.frozen 1
            have qA2 := hA.cell 2
            have zA2 := hA.frozen 2
            have qA3 := hA.cell 3
            have zA3 := hA.frozen 3
            have qB0 := hB.cell 0
            have zB0 := hB.frozen 0
            have qB1 := hB.cell 1
            have zB1 := hB.frozen 1
            have qB2 := hB.cell 2
            have zB2 := hB.frozen 2
            have qB3 := hB.cell 3
            have zB3 := hB.frozen 3
            have qC0 := hC.cell 0
            have zC0 := hC.frozen 0
            have qC1 := hC.cell 1
            have zC1 := hC.frozen 1
            have qC2 := hC.cell 2
            have zC2 := hC.frozen 2
            have ltA := hA.lt
            have ltB := hB.lt
            have ltC := hC.lt
            go_region
            all_goals go_wp2_with fail
            refine bodyPost_ret (v := .tuple #[.agg #[.slice K3 22 c3, .slice W3 0 d3, .slice K4 22 c4, .slice W4 0 d4], .agg #[.int .i64 0, .int .i64 0, .int .i64 0, .slice none 0 0], .agg #[.int .i64 0, .int .i64 0, .slice L n c], .bool true]) (by simp [results, Tryz.results36, go_sem, *]) rfl ?_
            have nA : ¬ R2 v1.heap.size v2.heap.size lo wr.heap.size gA := R2.no (by omega) (by omega)
            have nB : ¬ R2 v1.heap.size v2.heap.size lo wr.heap.size gB := R2.no (by omega) (by omega)
            have nC : ¬ R2 v1.heap.size v2.heap.size lo wr.heap.size gC := R2.no (by omega) (by omega)
            have mA : ¬ Rg v5.heap.size v6.heap.size gA := Rg.no (by omega)
            have mB : ¬ Rg v5.heap.size v6.heap.size gB := Rg.no (by omega)
            have mC : ¬ Rg v5.heap.size v6.heap.size gC := Rg.no (by omega)
            have hD2 := ((((((((((((HD.out).far (g := gA) nA 0 (.slice K3 22 c3)).far (g := gA) nA 1 (.slice W3 0 d3)).far (g := gA) nA 2 (.slice K4 22 c4)).far (g := gA) nA 3 (.slice W4 0 d4)).far (g := gB) nB 0 (.int .i64 0)).far (g := gB) nB 1 (.int .i64 0)).far (g := gB) nB 2 (.int .i64 0)).far (g := gB) nB 3 (.slice none 0 0)).far (g := gC) nC 0 (.int .i64 0)).far (g := gC) nC 1 (.int .i64 0)).far (g := gC) nC 2 (.slice L n c)).drew
            have hL2 := ((((((((((((HL.out).far (g := gA) mA 0 (.slice K3 22 c3)).far (g := gA) mA 1 (.slice W3 0 d3)).far (g := gA) mA 2 (.slice K4 22 c4)).far (g := gA) mA 3 (.slice W4 0 d4)).far (g := gB) mB 0 (.int .i64 0)).far (g := gB) mB 1 (.int .i64 0)).far (g := gB) mB 2 (.int .i64 0)).far (g := gB) mB 3 (.slice none 0 0)).far (g := gC) mC 0 (.int .i64 0)).far (g := gC) mC 1 (.int .i64 0)).far (g := gC) mC 2 (.slice L n c)).drew
            have hF2 := Below.drew ((((((((((((HF.out).setCell (p := ⟨gA, 0, none⟩) (show w.heap.size ≤ gA by omega) (.slice K3 22 c3)).setCell (p := ⟨gA, 1, none⟩) (show w.heap.size ≤ gA by omega) (.slice W3 0 d3)).setCell (p := ⟨gA, 2, none⟩) (show w.heap.size ≤ gA by omega) (.slice K4 22 c4)).setCell (p := ⟨gA, 3, none⟩) (show w.heap.size ≤ gA by omega) (.slice W4 0 d4)).setCell (p := ⟨gB, 0, none⟩) (show w.heap.size ≤ gB by omega) (.int .i64 0)).setCell (p := ⟨gB, 1, none⟩) (show w.heap.size ≤ gB by omega) (.int .i64 0)).setCell (p := ⟨gB, 2, none⟩) (show w.heap.size ≤ gB by omega) (.int .i64 0)).setCell (p := ⟨gB, 3, none⟩) (show w.heap.size ≤ gB by omega) (.slice none 0 0)).setCell (p := ⟨gC, 0, none⟩) (show w.heap.size ≤ gC by omega) (.int .i64 0)).setCell (p := ⟨gC, 1, none⟩) (show w.heap.size ≤ gC by omega) (.int .i64 0)).setCell (p := ⟨gC, 2, none⟩) (show w.heap.size ≤ gC by omega) (.slice L n c))
            refine ⟨K3, c3, W3, d3, K4, c4, W4, d4, L, c, by rw [← HN.out], ?_, hF2, by rw [← HN.out]; exact HCAP.out.1, HCAP.out.2⟩
            rw [← HN.out]
            exact (hD2.sub (fun k hk => by rcases hk with h | h <;> exact ⟨by omega, by simp only [size_set, drew_szR]; omega⟩)).and (hL2.sub (Rg.sub (by omega) (by simp only [size_set, drew_szR]; omega)))
end Go.Proofs.YtbheflinchabgaaGreatDoor
