/- Clients: NewClient, the reference's and the program's. -/
import Derived.Test.YtckbnfgdjdppfaaC7
import Derived.Test.YtckbnfgdjdppfaaC8
import Derived.Test.YtckbnfgdjdppfaaC3
import Derived.Test.YtckbnfgdjdppfaaCl1
namespace Go.Proofs.Ytckbnfgdjdppfaa
set_option linter.unusedSimpArgs false
set_option linter.unusedVariables false
attribute [local go_sem] n_lt2 n_lt3 n_lt4 n_le2 n_le3
open Go.RowKit
attribute [local go_sem] Ext.cell Ext.frozen
def newB (i0 : Int) (wl : List Wt) : Bool := clientB i0 wl [] 0
def newI (i0 : Int) (wl : List Wt) : Int := if newB i0 wl = true then i0 else 0
def newL (i0 : Int) (wl : List Wt) : List Wt := if newB i0 wl = true then wl else []
theorem newL_len (i0 : Int) (wl : List Wt) : (newL i0 wl).length ≤ 12 := by
  unfold newL
  split
  · rename_i h; exact (clientB_le h).1
  · simp
theorem retClient_nil {w w' : World} {E F : TypeId} (h : Below w.heap.size w w') (hE : E = 45) (hF : F = 75) : RetClient w 0 0 0 (WT []) 0 [] (.returned (.agg #[.int .i64 0, .slice none 0 0, .slice none 0 0, .int .i64 0])) w' :=
  ⟨none, 0, none, 0, rfl, Row.nil _ _ _ _, Row.nil _ _ _ _, (fun a b ha => by cases ha), h⟩
set_option maxRecDepth 100000 in
set_option maxHeartbeats 4000000 in
theorem newClient_any (A : Option Addr) (n c : Nat) (i0 : Int) (wl : List Wt) (w : World) (hP : Sl w 7 A n (WT wl)) (hl : wl.length = n) (hn : n ≤ 1048576) :
    Calls Try.prog 8 #[.int .i64 i0, .slice A n c] w (RetClient w (newI i0 wl) 0 (newL i0 wl).length (WT (newL i0 wl)) 0 []) := by
  have HP := Lib.hid (fun (w' : World) (hB : Below w.heap.size w w') => hP.below hB)
  have c1 := fun (X : Option Addr) (d : Nat) (v : World) (hv : Sl v 7 X n (WT wl)) => clientOk_any X n d none 0 0 i0 0 wl [] v hv (Sl.nil v 4 none) hl rfl (by unfold maxLen; omega) (Nat.zero_le _)
  clear hP
  subst hl
  obtain ⟨b, hb⟩ : ∃ b, newB i0 wl = b := ⟨_, rfl⟩
  have HB : Hid (clientB i0 wl [] 0 = b) := hb
  have C1 : Hid (∀ (X : Option Addr) (d : Nat) (v : World), Sl v 7 X wl.length (WT wl) → Calls Try.prog 17 #[.agg #[.int .i64 i0, .slice X wl.length d, .slice none 0 0, .int .i64 0]] v fun e' w' => e' = .returned (.bool b) ∧ Below v.heap.size v w') := by
    show ∀ (X : Option Addr) (d : Nat) (v : World), _
    intro X d v hv
    have := c1 X d v hv
    rw [HB.out] at this
    exact this
  have hres : ∀ (e : Ending) (w' : World), (b = true → RetClient w i0 0 wl.length (WT wl) 0 [] e w') → (b = false → RetClient w 0 0 0 (WT []) 0 [] e w') → RetClient w (newI i0 wl) 0 (newL i0 wl).length (WT (newL i0 wl)) 0 [] e w' := by
    intro e w' h1 h2
    unfold newI newL
    cases b with
    | true => rw [if_pos hb, if_pos hb]; exact h1 rfl
    | false => rw [if_neg (by rw [hb]; decide), if_neg (by rw [hb]; decide)]; exact h2 rfl
  have HR := Lib.hid hres
  clear hres c1 HB hb
  go_enter Try.func8, Try.ntmps8
  go_wp2_with (at_builtin; refine wpList_append_copy rfl _ _ 27 rfl 45 (.agg #[.int .i64 0, .int .i64 0, .int .i64 0, .int .i64 0, .int .i64 0, .int .i64 0, .int .i64 0]) 7 56 Try.underlying27 info_Want6 (by simp [Value.cells]) (by decide) (w.heap.size + 1) rfl (w.heap.size + 1) A wl.length c (WT wl) rfl (by unfold maxLen; omega) (by omega) (Blk.new_at _ _ _ _ (by simp)) (Nat.le_refl _) (HP.out _ (by (repeat' (first | (with_reducible exact Below.refl _ _) | (with_reducible assumption) | (with_reducible refine Below.alloc ?_ ?_ _) | (with_reducible refine Below.drew ?_) | (with_reducible refine Below.setCell ?_ ?_ _) | (with_reducible refine bstep (by assumption) ?_ ?_) | (with_reducible exact Nat.le_refl _) | omega | (simp [*]; done) | (simp [*]; omega))))) ?_; intro gA cA wA RA bA lA oA)
  obtain ⟨v, hv⟩ : ∃ v : World, v = wA.alloc (.cells #[.int .i64 i0, .slice (some ⟨gA, 0, none⟩) wl.length cA, .slice none 0 0, .int .i64 0] 32) := ⟨_, rfl⟩
  rw [← hv]
  have R1 : Blk wA w.heap.size 32 #[.int .i64 0, .slice none 0 0, .slice none 0 0, .int .i64 0] := Blk.below2 bA ((Blk.new_at _ _ _ _ rfl).alloc _)
  have b0 : Below w.heap.size w wA := bthen ((Below.refl _ _).alloc (Nat.le_refl _) _ |>.alloc (by simp) _) bA
  have R2 : Blk v w.heap.size 32 #[.int .i64 0, .slice none 0 0, .slice none 0 0, .int .i64 0] := by rw [hv]; exact R1.alloc _
  have K2 : Blk v wA.heap.size 32 #[.int .i64 i0, .slice (some ⟨gA, 0, none⟩) wl.length cA, .slice none 0 0, .int .i64 0] := by rw [hv]; exact Blk.new_at _ _ _ _ rfl
  have A2 : Row v (w.heap.size + 1) 45 7 (some ⟨gA, 0, none⟩) wl.length cA (WT wl) := by rw [hv]; exact RA.alloc _
  have b2 : Below w.heap.size w v := by rw [hv]; exact b0.alloc b0.size _
  have gne : gA ≠ w.heap.size := by have := A2.ge _ rfl; simp at this; omega
  have kne : wA.heap.size ≠ w.heap.size := by have := R1.lt; omega
  clear hv R1 b0 bA lA oA RA
  refine (C1.out _ _ v A2.sl).mono ?_
  rintro e w1 ⟨rfl, b1⟩
  have R3 := R2.below b1
  have K3 := K2.below b1
  have A3 := A2.below b1
  have f1 := bthen b2 b1
  clear R2 K2 A2 b2 b1
  have q0 := R3.cell 0
  have q1 := R3.cell 1
  have q2 := R3.cell 2
  have q3 := R3.cell 3
  have y0 := R3.frozen 0
  have y1 := R3.frozen 1
  have y2 := R3.frozen 2
  have y3 := R3.frozen 3
  have l2 := R3.lt
  cases b with
  | false =>
    go_wp2
    refine bodyPost_ret (v := .agg #[.int .i64 0, .slice none 0 0, .slice none 0 0, .int .i64 0]) (by simp [results, Try.results8, go_sem, *]) rfl (HR.out _ _ (fun h => by cases h) (fun _ => retClient_nil (E := 45) (F := 75) ?_ rfl rfl))
    exact (((f1.setCell (p := ⟨w.heap.size, 0, none⟩) (Nat.le_refl _) _).setCell (p := ⟨w.heap.size, 1, none⟩) (Nat.le_refl _) _).setCell (p := ⟨w.heap.size, 2, none⟩) (Nat.le_refl _) _).setCell (p := ⟨w.heap.size, 3, none⟩) (Nat.le_refl _) _
  | true =>
    have k0 := K3.cell 0
    have k1 := K3.cell 1
    have k2 := K3.cell 2
    have k3 := K3.cell 3
    have kl := K3.lt
    have RP := A3.mono (Nat.le_succ w.heap.size)
    go_wp2
    refine bodyPost_ret (v := .agg #[.int .i64 i0, .slice (some ⟨gA, 0, none⟩) wl.length cA, .slice none 0 0, .int .i64 0]) (by simp [results, Try.results8, go_sem, *]) rfl (HR.out _ _ (fun _ => ⟨_, _, _, _, rfl, ?_, Row.nil _ _ _ _, (fun a b _ hb => by cases hb), ?_⟩) (fun h => by cases h))
    · exact (((RP.far (p := ⟨w.heap.size, 0, none⟩) (fun a ha => by injection ha with ha; subst ha; exact gne) _).far (p := ⟨w.heap.size, 1, none⟩) (fun a ha => by injection ha with ha; subst ha; exact gne) _).far (p := ⟨w.heap.size, 2, none⟩) (fun a ha => by injection ha with ha; subst ha; exact gne) _).far (p := ⟨w.heap.size, 3, none⟩) (fun a ha => by injection ha with ha; subst ha; exact gne) _
    · exact (((f1.setCell (p := ⟨w.heap.size, 0, none⟩) (Nat.le_refl _) _).setCell (p := ⟨w.heap.size, 1, none⟩) (Nat.le_refl _) _).setCell (p := ⟨w.heap.size, 2, none⟩) (Nat.le_refl _) _).setCell (p := ⟨w.heap.size, 3, none⟩) (Nat.le_refl _) _
end Go.Proofs.Ytckbnfgdjdppfaa
