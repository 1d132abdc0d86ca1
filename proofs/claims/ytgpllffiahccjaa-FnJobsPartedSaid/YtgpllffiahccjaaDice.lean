/- The law's dice: roll, below, big; an argument of bytes. -/
import Derived.Test.YtgpllffiahccjaaCur2
import Derived.Laws.BitsAllLaws
namespace Go.Proofs.Ytgpllffiahccjaa
set_option linter.unusedSimpArgs false
set_option linter.unusedVariables false
attribute [local go_sem] n_lt2 n_lt3 n_lt4 n_le2 n_le3
open Go.RowKit Go.ChangeShapes Go.WideShapes Go.ChangeAt Go.Deep

/-- The slice value '.slice A n _' reads as the bytes bs. -/
def SlB (w : World) (A : Option Addr) (n : Nat) (bs : List Int) : Prop :=
  bs.length = n ∧ (∀ x ∈ bs, 0 ≤ x ∧ x < 256) ∧ (0 < n → ∃ b off, A = some ⟨b, off, none⟩ ∧ b < w.heap.size ∧ ∀ j, j < n → w.cell? ⟨b, off + j, none⟩ = some (.int .u8 (bs.getD j 0)))
theorem SlB.below {w w' : World} {A : Option Addr} {n : Nat} {bs : List Int} (h : SlB w A n bs) (hb : Below w.heap.size w w') : SlB w' A n bs :=
  ⟨h.1, h.2.1, fun hn => by
    obtain ⟨b, off, rfl, hbl, hj⟩ := h.2.2 hn
    exact ⟨b, off, rfl, Nat.lt_of_lt_of_le hbl hb.size, fun j hjn => (hb.cell hbl).trans (hj j hjn)⟩⟩
theorem SlB.range {w : World} {A : Option Addr} {n : Nat} {bs : List Int} (h : SlB w A n bs) (j : Nat) : 0 ≤ bs.getD j 0 ∧ bs.getD j 0 < 256 := by
  by_cases hj : j < bs.length
  · have := h.2.1 _ (List.getElem_mem hj)
    simpa [List.getD, hj] using this
  · simp [List.getD, List.getElem?_eq_none (by omega : bs.length ≤ j)]
section
variable {H : Type} {enc : TypeId × Value → H} {P : Program} {w : World} {base : Nat} {spare : Nat → Bool} {held : Bool}
/-- An argument of bytes. -/
theorem open_bytes {r : Reach} {b0 : Nat} {t e : TypeId} {v : Value} {d : DataW H} {p : List MemPlace} (ht : P.underlying t = some (.slice e)) (he : P.underlying e = some (.int .u8)) (hs : P.cellsOf e = 1)
    (hv : Value.okWide P w r b0 t v) (h : DataW.Trod enc P w base spare held t v d p) : ∃ A n cap bs, v = .slice A n cap ∧ SlB w A n bs ∧ n ≤ cap ∧ cap ≤ maxLen := by
  obtain ⟨a, len, cap, rfl⟩ := okWide_slice ht hv
  obtain ⟨fuel, hf⟩ := h
  rcases open_ints ht he hs hf with ⟨h1, _⟩ | ⟨a', len', cap', zs, h1, _, hl, hm, hzl, _, hcell, hwf⟩
  · have e : Value.slice a len cap = .slice none 0 0 := by simpa [Value.cells] using h1
    exact ⟨none, 0, 0, [], e, ⟨rfl, by simp, fun h => absurd h (by omega)⟩, Nat.le_refl _, by simp⟩
  · have e : Value.slice a len cap = .slice (some a') len' cap' := by simpa [Value.cells] using h1
    have hle : len' ≤ zs.length := by rw [hzl]; split <;> omega
    obtain ⟨b, off, spot⟩ := a'
    have hbs : (zs.take len').length = len' := by simp; omega
    have hc : ∀ j, j < len' → w.cell? ((⟨b, off, spot⟩ : Addr).add j) = some (.int .u8 ((zs.take len').getD j 0)) := fun j hj => by
      rw [hcell j (by omega)]
      simp [List.getD, List.getElem?_take, hj]
    by_cases hn : len' = 0
    · subst hn
      exact ⟨_, 0, cap', [], e, ⟨rfl, by simp, fun h => absurd h (by omega)⟩, hl, hm⟩
    · have h0 := hc 0 (by omega)
      have hspot : spot = none := by simpa [Addr.add] using World.cell?_spot h0
      subst hspot
      have hblk : b < w.heap.size := by
        rw [Go.WideShapes.add_plain] at h0
        exact World.block_lt_of_cell? w ⟨b, off + 0, none⟩ h0
      refine ⟨some ⟨b, off, none⟩, len', cap', zs.take len', e, ⟨hbs, fun x hx => ?_, fun _ => ⟨b, off, rfl, hblk, fun j hj => by rw [← Go.WideShapes.add_plain]; exact hc j hj⟩⟩, hl, hm⟩
      have := hwf x (List.mem_of_mem_take hx)
      simp [Lit.wf, IntKind.min, IntKind.max, IntKind.signed, IntKind.bits] at this
      omega
end
attribute [local go_sem] Ext.cell Ext.frozen

/-- Block p is a dice over the bytes. -/
def Dice (w : World) (p D : Nat) (A : Option Addr) (n cap : Nat) : Prop := ∃ (i : Nat) (h : Int), i ≤ n ∧ Blk w p D #[.slice A n cap, .int .i64 (i : Nat), .int .u64 h]
theorem u64_lt (x : Int) : IntKind.u64.wrap x < 18446744073709551616 := by rw [IntKind.wrap_u64]; omega
theorem dice_range (h : Int) (h0 : 0 ≤ h) (h1 : h < 18446744073709551616) : 0 ≤ wrap64 (bits BinOp.and IntKind.u64 (h / 8589934592) 16777215) ∧ wrap64 (bits BinOp.and IntKind.u64 (h / 8589934592) 16777215) ≤ 16777215 := by
  rw [u64_and (h / 8589934592) 16777215 (by omega) (by omega) (by omega) (by omega)]
  have hle : ((h / 8589934592).toNat &&& (16777215 : Int).toNat) ≤ 16777215 := Nat.and_le_right
  unfold wrap64
  omega
set_option maxRecDepth 100000 in
set_option maxHeartbeats 1600000 in
theorem below_dice (p n cap : Nat) (A : Option Addr) (bs : List Int) (m : Int) (w : World) (hD : Dice w p 89 A n cap) (hS : SlB w A n bs) (hn : n ≤ maxLen) (hm : 0 < m) (hp : 0 < n → ∀ a, A = some a → a.block ≠ p) :
    Calls Try.prog 15 #[.pointer (some ⟨p, 0, none⟩), .int .i64 m] w fun e w' => ∃ x, e = .returned (.int .i64 x) ∧ 0 ≤ x ∧ x < m ∧ Dice w' p 89 A n cap ∧ Wrote w w' (some ⟨p, 0, none⟩) := by
  obtain ⟨i, h, hi, K⟩ := hD
  have q0 : w.cell? ⟨p, 0, none⟩ = some (.slice A n cap) := K.cell 0
  have q1 : w.cell? ⟨p, 1, none⟩ = some (.int .i64 (i : Nat)) := K.cell 1
  have q2 : w.cell? ⟨p, 2, none⟩ = some (.int .u64 h) := K.cell 2
  have qf1 := K.frozen 1
  have qf2 := K.frozen 2
  have HK := Lib.hid K
  unfold maxLen at hn
  clear K
  have hx := dice_range (IntKind.u64.wrap (IntKind.u64.wrap (h * 6364136223846793005) + 1442695040888963407)) (wrap_u64_nonneg _) (u64_lt _)
  by_cases hin : i < n
  · obtain ⟨b, off, rfl, hb, hcell⟩ := hS.2.2 (by omega)
    have hc := hcell i hin
    have hr := hS.range i
    have hbp : b ≠ p := hp (by omega) _ rfl
    have hbp' : p ≠ b := Ne.symm hbp
    generalize bs.getD i 0 = y at hc hr
    obtain ⟨hy0, hy1⟩ := hr
    clear hcell
    have hi' : (i : Int) < (n : Int) := by omega
    have hdi : decide ((i : Int) < (n : Int)) = true := decide_eq_true hi'
    go_enter Try.func15, Try.ntmps15
    go_wp2
    generalize hgx : wrap64 (bits BinOp.and IntKind.u64 (IntKind.u64.wrap (IntKind.u64.wrap (h * 6364136223846793005) + 1442695040888963407) / 8589934592) 16777215) = x at hx
    generalize (bits BinOp.and IntKind.u64 (IntKind.u64.wrap (IntKind.u64.wrap (h * 6364136223846793005) + 1442695040888963407) / 8589934592) 16777215) = x1
    generalize (IntKind.u64.wrap (IntKind.u64.wrap (h * 6364136223846793005) + 1442695040888963407) / 8589934592) = x2
    generalize IntKind.u64.wrap (IntKind.u64.wrap (h * 6364136223846793005) + 1442695040888963407) = h2
    generalize IntKind.u64.wrap (h * 6364136223846793005) = h3
    clear hgx
    obtain ⟨hx0, hx1⟩ := hx
    have hw1 : IntKind.i64.wrap (x + y) = x + y := by simp [IntKind.wrap, IntKind.bits, IntKind.signed]; omega
    have hw2 : IntKind.i64.wrap y = y := by simp [IntKind.wrap, IntKind.bits, IntKind.signed]; omega
    go_quiet (fail)
    go_wp2
    go_quiet (fail)
    go_wp2
    go_ret
    refine ⟨(x + y) % m, rfl, Int.emod_nonneg _ (by omega), Int.emod_lt_of_pos _ hm, ⟨i + 1, h2, by omega, ?_⟩, ?_⟩
    · exact Blk.set_ (Blk.set_ HK.out 2 (.int .u64 h2)) 1 (.int .i64 ((i : Int) + 1))
    · exact wrote_setp (wrote_drewN (wrote_setp (wrote_refl _ _) _ _) _) _ _
  · have hi' : ¬ (i : Int) < (n : Int) := by omega
    have hdi : decide ((i : Int) < (n : Int)) = false := decide_eq_false hi'
    go_enter Try.func15, Try.ntmps15
    go_wp2
    generalize hgx : wrap64 (bits BinOp.and IntKind.u64 (IntKind.u64.wrap (IntKind.u64.wrap (h * 6364136223846793005) + 1442695040888963407) / 8589934592) 16777215) = x at hx
    generalize (bits BinOp.and IntKind.u64 (IntKind.u64.wrap (IntKind.u64.wrap (h * 6364136223846793005) + 1442695040888963407) / 8589934592) 16777215) = x1
    generalize (IntKind.u64.wrap (IntKind.u64.wrap (h * 6364136223846793005) + 1442695040888963407) / 8589934592) = x2
    generalize IntKind.u64.wrap (IntKind.u64.wrap (h * 6364136223846793005) + 1442695040888963407) = h2
    generalize IntKind.u64.wrap (h * 6364136223846793005) = h3
    clear hgx
    obtain ⟨hx0, hx1⟩ := hx
    go_quiet (fail)
    go_wp2
    go_ret
    refine ⟨x % m, rfl, Int.emod_nonneg _ (by omega), Int.emod_lt_of_pos _ hm, ⟨i, h2, by omega, ?_⟩, ?_⟩
    · exact Blk.set_ HK.out 2 (.int .u64 h2)
    · exact wrote_drewN (wrote_setp (wrote_refl _ _) _ _) _
theorem big_any (A : Option Addr) (n cap : Nat) (w : World) (hn : n ≤ maxLen) :
    Calls Try.prog 13 #[.slice A n cap] w fun e w' => e = .returned (.bool (decide (4096 < n))) ∧ w = w' := by
  unfold maxLen at hn
  go_enter Try.func13, Try.ntmps13
  go_wp2
  go_ret
  exact ⟨ret_bool (by by_cases h : 4096 < n <;> simp [h] <;> omega), rfl⟩
set_option maxRecDepth 100000 in
set_option maxHeartbeats 1600000 in
theorem roll_any (A : Option Addr) (n cap : Nat) (bs : List Int) (seed : Int) (w : World) (hS : SlB w A n bs) (hn : n ≤ 4096) (hs : 0 ≤ seed ∧ seed ≤ 100000) :
    Calls Try.prog 14 #[.slice A n cap, .int .u64 seed] w fun e w' => e = .returned (.pointer (some ⟨w.heap.size, 0, none⟩)) ∧ Dice w' w.heap.size 89 A n cap ∧ Below w.heap.size w w' := by
  obtain ⟨hs0, hs1⟩ := hs
  have HS := Lib.hid hS
  clear hS
  go_enter Try.func14, Try.ntmps14
  go_wp2
  go_loopw [6] (fun i wr => ∃ (k : Nat) (h : Int), k ≤ n ∧ i = .int .i64 (k : Nat) ∧ Blk wr w.heap.size 89 #[.slice A n cap, .int .i64 0, .int .u64 h] ∧ Below w.heap.size w wr) (fun i _ => n - (intOf i).toNat)
  case atStart => exact ⟨0, _, Nat.zero_le _, rfl, Blk.new _ _ _, (Below.refl _ _).alloc (Nat.le_refl _) _⟩
  case round =>
    obtain ⟨k, h, hk, rfl, K, hbl⟩ := hrel
    by_cases hlt : k < n
    · obtain ⟨b, off, rfl, hb, hcell⟩ := HS.out.2.2 (by omega)
      have hc := hcell k hlt
      have hr := HS.out.range k
      generalize bs.getD k 0 = y at hc hr
      obtain ⟨hy0, hy1⟩ := hr
      rw [← hbl.cell (by exact hb)] at hc
      clear hcell
      have hlt' : (k : Int) < (n : Int) := by omega
      have q0 : wr.cell? ⟨w.heap.size, 0, none⟩ = some (.slice (some ⟨b, off, none⟩) n cap) := K.cell 0
      have q2 : wr.cell? ⟨w.heap.size, 2, none⟩ = some (.int .u64 h) := K.cell 2
      have qf2 := K.frozen 2
      have HK := Lib.hid K
      have hbp : b ≠ w.heap.size := by omega
      have hbp' : w.heap.size ≠ b := by omega
      clear K
      go_wp2
      refine wp_region_tail 15 (by kernel_rfl) (by kernel_rfl) ?_
      intro wt hwt
      have K2 : Blk wt w.heap.size 89 #[.slice (some ⟨b, off, none⟩) n cap, .int .i64 0, .int .u64 h] := by rw [hwt]; exact HK.out
      have b2 : Below w.heap.size w wt := by rw [hwt]; exact below_drewN hbl _
      have hc2 : wt.cell? ⟨b, off + k, none⟩ = some (.int .u8 y) := by rw [hwt]; exact hc
      clear hwt q0 q2 qf2 hc
      have q0 : wt.cell? ⟨w.heap.size, 0, none⟩ = some (.slice (some ⟨b, off, none⟩) n cap) := K2.cell 0
      have q2 : wt.cell? ⟨w.heap.size, 2, none⟩ = some (.int .u64 h) := K2.cell 2
      have qf2 := K2.frozen 2
      have HK2 := Lib.hid K2
      clear K2
      simp only [List.take_succ_cons, List.take_zero, List.drop_succ_cons, List.drop_zero]
      repeat still_step
      refine wpStill_nil ?_
      go_wp2
      refine ⟨⟨k + 1, _, by omega, by go_num, HK2.out.set_ 2 _, b2.setCell (Nat.le_refl _) _⟩, by simp [intOf]; omega⟩
    · go_wp2
      go_ret
      exact ⟨rfl, ⟨0, h, Nat.zero_le _, K⟩, hbl⟩
end Go.Proofs.Ytgpllffiahccjaa
