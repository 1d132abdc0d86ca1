/- (Without the row cursor.) The law's dice: roll, below, big; an argument of bytes. -/
import Derived.Test.YtckbnfgdjdppfaaA1
import Derived.Test.YtckbnfgdjdppfaaFlatS
import Derived.Test.YtckbnfgdjdppfaaBk
import Derived.Test.YtckbnfgdjdppfaaReg
import Derived.Test.YtckbnfgdjdppfaaSet
import Derived.Test.YtckbnfgdjdppfaaWr2
import Derived.Test.YtckbnfgdjdppfaaApp
import Derived.Test.YtckbnfgdjdppfaaLib
import Derived.Test.YtckbnfgdjdppfaaNm
import Derived.Laws.BitsAllLaws
namespace Go.Proofs.Ytckbnfgdjdppfaa
set_option linter.unusedSimpArgs false
set_option linter.unusedVariables false
attribute [local go_sem] n_lt2 n_lt3 n_lt4 n_le2 n_le3
open Go.RowKit Go.ChangeShapes Go.WideShapes Go.ChangeAt Go.Deep
theorem wrote_drewN {w w' : World} {A : Option Addr} (h : Wrote w w' A) (k : Nat) : Wrote w (w'.drewN k) A := ⟨h.os, h.tape, h.output, h.size, h.block⟩
theorem wrote_refl (w : World) (A : Option Addr) : Wrote w w A := World.grownBy.refl _ _
theorem wrote_below {w w' : World} (h : Below w.heap.size w w') (A : Option Addr) : Wrote w w' A := ⟨h.os, h.tape, h.output, h.size, fun i hi _ => h.block i hi⟩
theorem wrote_then {w a b : World} {p : Nat} (h : Wrote w a (some ⟨p, 0, none⟩)) (hb : Below a.heap.size a b) : Wrote w b (some ⟨p, 0, none⟩) :=
  ⟨hb.os.trans h.os, hb.tape.trans h.tape, hb.output.trans h.output, Nat.le_trans h.size hb.size, fun i hi hn => (hb.block i (Nat.lt_of_lt_of_le hi h.size)).trans (h.block i hi hn)⟩
theorem wrote_trans {w a b : World} {p : Nat} (h : Wrote w a (some ⟨p, 0, none⟩)) (hb : Wrote a b (some ⟨p, 0, none⟩)) : Wrote w b (some ⟨p, 0, none⟩) :=
  ⟨hb.os.trans h.os, hb.tape.trans h.tape, hb.output.trans h.output, Nat.le_trans h.size hb.size, fun i hi hn => (hb.block i (Nat.lt_of_lt_of_le hi h.size) hn).trans (h.block i hi hn)⟩
theorem wrote_setp {w w' : World} {p : Nat} (h : Wrote w w' (some ⟨p, 0, none⟩)) (o : Nat) (u : Value) : Wrote w (w'.setCell ⟨p, o, none⟩ u) (some ⟨p, 0, none⟩) := wrote_set (p := ⟨p, o, none⟩) h rfl u

/-- The slice value '.slice A n _' reads as the bytes bs. -/
def SlB (w : World) (A : Option Addr) (n : Nat) (bs : List Int) : Prop :=
  bs.length = n ∧ (∀ x ∈ bs, 0 ≤ x ∧ x < 256) ∧ (0 < n → ∃ b off, A = some ⟨b, off, none⟩ ∧ b < w.heap.size ∧ ∀ j, j < n → w.cell? ⟨b, off + j, none⟩ = some (.int .u8 (bs.getD j 0)))
theorem SlB.below {w w' : World} {A : Option Addr} {n : Nat} {bs : List Int} (h : SlB w A n bs) (hb : Below w.heap.size w w') : SlB w' A n bs :=
  ⟨h.1, h.2.1, fun hn => by
    obtain ⟨b, off, rfl, hbl, hj⟩ := h.2.2 hn
    exact ⟨b, off, rfl, Nat.lt_of_lt_of_le hbl hb.size, fun j hjn => (hb.cell hbl).trans (hj j hjn)⟩⟩
theorem SlB.range {w : World} {A : Option Addr} {n : Nat} {bs : List Int} (h : SlB w A n bs) (j : Nat) : 0 ≤ bs.getD j 0 ∧ bs.getD j 0 < 256 := by
  by_cases hj : j < bs.length
  · have := h.2.1 _ (List.getElem_mem hj)
    simpa [List.getD, hj] using this
  · simp [List.getD, List.getElem?_eq_none (by omega : bs.length ≤ j)]
section
variable {H : Type} {enc : TypeId × Value → H} {P : Program} {w : World} {base : Nat} {spare : Nat → Bool} {held : Bool}
/-- An argument of bytes. -/
theorem open_bytes {r : Reach} {b0 : Nat} {t e : TypeId} {v : Value} {d : DataW H} {p : List MemPlace} (ht : P.underlying t = some (.slice e)) (he : P.underlying e = some (.int .u8)) (hs : P.cellsOf e = 1)
    (hv : Value.okWide P w r b0 t v) (h : DataW.Trod enc P w base spare held t v d p) : ∃ A n cap bs, v = .slice A n cap ∧ SlB w A n bs ∧ n ≤ cap ∧ cap ≤ maxLen := by
  obtain ⟨a, len, cap, rfl⟩ := okWide_slice ht hv
  obtain ⟨fuel, hf⟩ := h
  rcases open_ints ht he hs hf with ⟨h1, _⟩ | ⟨a', len', cap', zs, h1, _, hl, hm, hzl, _, hcell, hwf⟩
  · have e : Value.slice a len cap = .slice none 0 0 := by simpa [Value.cells] using h1
    exact ⟨none, 0, 0, [], e, ⟨rfl, by simp, fun h => absurd h (by omega)⟩, Nat.le_refl _, by simp⟩
  · have e : Value.slice a len cap = .slice (some a') len' cap' := by simpa [Value.cells] using h1
    have hle : len' ≤ zs.length := by rw [hzl]; split <;> omega
    obtain ⟨b, off, spot⟩ := a'
    have hbs : (zs.take len').length = len' := by simp; omega
    have hc : ∀ j, j < len' → w.cell? ((⟨b, off, spot⟩ : Addr).add j) = some (.int .u8 ((zs.take len').getD j 0)) := fun j hj => by
      rw [hcell j (by omega)]
      simp [List.getD, List.getElem?_take, hj]
    by_cases hn : len' = 0
    · subst hn
      exact ⟨_, 0, cap', [], e, ⟨rfl, by simp, fun h => absurd h (by omega)⟩, hl, hm⟩
    · have h0 := hc 0 (by omega)
      have hspot : spot = none := by simpa [Addr.add] using World.cell?_spot h0
      subst hspot
      have hblk : b < w.heap.size := by
        rw [Go.WideShapes.add_plain] at h0
        exact World.block_lt_of_cell? w ⟨b, off + 0, none⟩ h0
      refine ⟨some ⟨b, off, none⟩, len', cap', zs.take len', e, ⟨hbs, fun x hx => ?_, fun _ => ⟨b, off, rfl, hblk, fun j hj => by rw [← Go.WideShapes.add_plain]; exact hc j hj⟩⟩, hl, hm⟩
      have := hwf x (List.mem_of_mem_take hx)
      simp [Lit.wf, IntKind.min, IntKind.max, IntKind.signed, IntKind.bits] at this
      omega
end
attribute [local go_sem] Ext.cell Ext.frozen

/-- Block p is a dice over the bytes. -/
def Dice (w : World) (p D : Nat) (A : Option Addr) (n cap : Nat) : Prop := ∃ (i : Nat) (h : Int), i ≤ n ∧ Blk w p D #[.slice A n cap, .int .i64 (i : Nat), .int .u64 h]
theorem u64_lt (x : Int) : IntKind.u64.wrap x < 18446744073709551616 := by rw [IntKind.wrap_u64]; omega
theorem dice_range (h : Int) (h0 : 0 ≤ h) (h1 : h < 18446744073709551616) : 0 ≤ wrap64 (bits BinOp.and IntKind.u64 (h / 8589934592) 16777215) ∧ wrap64 (bits BinOp.and IntKind.u64 (h / 8589934592) 16777215) ≤ 16777215 := by
  rw [u64_and (h / 8589934592) 16777215 (by omega) (by omega) (by omega) (by omega)]
  have hle : ((h / 8589934592).toNat &&& (16777215 : Int).toNat) ≤ 16777215 := Nat.and_le_right
  unfold wrap64
  omega
set_option maxRecDepth 100000 in
set_option maxHeartbeats 1600000 in
theorem below_dice (p n cap : Nat) (A : Option Addr) (bs : List Int) (m : Int) (w : World) (hD : Dice w p 61 A n cap) (hS : SlB w A n bs) (hn : n ≤ maxLen) (hm : 0 < m) (hp : 0 < n → ∀ a, A = some a → a.block ≠ p) :
    Calls Try.prog 7 #[.pointer (some ⟨p, 0, none⟩), .int .i64 m] w fun e w' => ∃ x, e = .returned (.int .i64 x) ∧ 0 ≤ x ∧ x < m ∧ Dice w' p 61 A n cap ∧ Wrote w w' (some ⟨p, 0, none⟩) := by
  obtain ⟨i, h, hi, K⟩ := hD
  have q0 : w.cell? ⟨p, 0, none⟩ = some (.slice A n cap) := K.cell 0
  have q1 : w.cell? ⟨p, 1, none⟩ = some (.int .i64 (i : Nat)) := K.cell 1
  have q2 : w.cell? ⟨p, 2, none⟩ = some (.int .u64 h) := K.cell 2
  have qf1 := K.frozen 1
  have qf2 := K.frozen 2
  have HK := Lib.hid K
  unfold maxLen at hn
  clear K
  have hx := dice_range (IntKind.u64.wrap (IntKind.u64.wrap (h * 6364136223846793005) + 1442695040888963407)) (wrap_u64_nonneg _) (u64_lt _)
  by_cases hin : i < n
  · obtain ⟨b, off, rfl, hb, hcell⟩ := hS.2.2 (by omega)
    have hc := hcell i hin
    have hr := hS.range i
    have hbp : b ≠ p := hp (by omega) _ rfl
    have hbp' : p ≠ b := Ne.symm hbp
    generalize bs.getD i 0 = y at hc hr
    obtain ⟨hy0, hy1⟩ := hr
    clear hcell
    have hi' : (i : Int) < (n : Int) := by omega
    have hdi : decide ((i : Int) < (n : Int)) = true := decide_eq_true hi'
    go_enter Try.func7, Try.ntmps7
    go_wp2
    generalize hgx : wrap64 (bits BinOp.and IntKind.u64 (IntKind.u64.wrap (IntKind.u64.wrap (h * 6364136223846793005) + 1442695040888963407) / 8589934592) 16777215) = x at hx
    generalize (bits BinOp.and IntKind.u64 (IntKind.u64.wrap (IntKind.u64.wrap (h * 6364136223846793005) + 1442695040888963407) / 8589934592) 16777215) = x1
    generalize (IntKind.u64.wrap (IntKind.u64.wrap (h * 6364136223846793005) + 1442695040888963407) / 8589934592) = x2
    generalize IntKind.u64.wrap (IntKind.u64.wrap (h * 6364136223846793005) + 1442695040888963407) = h2
    generalize IntKind.u64.wrap (h * 6364136223846793005) = h3
    clear hgx
    obtain ⟨hx0, hx1⟩ := hx
    have hw1 : IntKind.i64.wrap (x + y) = x + y := by simp [IntKind.wrap, IntKind.bits, IntKind.signed]; omega
    have hw2 : IntKind.i64.wrap y = y := by simp [IntKind.wrap, IntKind.bits, IntKind.signed]; omega
    go_quiet (fail)
    go_wp2
    go_quiet (fail)
    go_wp2
    go_ret
    refine ⟨(x + y) % m, rfl, Int.emod_nonneg _ (by omega), Int.emod_lt_of_pos _ hm, ⟨i + 1, h2, by omega, ?_⟩, ?_⟩
    · exact Blk.set_ (Blk.set_ HK.out 2 (.int .u64 h2)) 1 (.int .i64 ((i : Int) + 1))
    · exact wrote_setp (wrote_drewN (wrote_setp (wrote_refl _ _) _ _) _) _ _
  · have hi' : ¬ (i : Int) < (n : Int) := by omega
    have hdi : decide ((i : Int) < (n : Int)) = false := decide_eq_false hi'
    go_enter Try.func7, Try.ntmps7
    go_wp2
    generalize hgx : wrap64 (bits BinOp.and IntKind.u64 (IntKind.u64.wrap (IntKind.u64.wrap (h * 6364136223846793005) + 1442695040888963407) / 8589934592) 16777215) = x at hx
    generalize (bits BinOp.and IntKind.u64 (IntKind.u64.wrap (IntKind.u64.wrap (h * 6364136223846793005) + 1442695040888963407) / 8589934592) 16777215) = x1
    generalize (IntKind.u64.wrap (IntKind.u64.wrap (h * 6364136223846793005) + 1442695040888963407) / 8589934592) = x2
    generalize IntKind.u64.wrap (IntKind.u64.wrap (h * 6364136223846793005) + 1442695040888963407) = h2
    generalize IntKind.u64.wrap (h * 6364136223846793005) = h3
    clear hgx
    obtain ⟨hx0, hx1⟩ := hx
    go_quiet (fail)
    go_wp2
    go_ret
    refine ⟨x % m, rfl, Int.emod_nonneg _ (by omega), Int.emod_lt_of_pos _ hm, ⟨i, h2, by omega, ?_⟩, ?_⟩
    · exact Blk.set_ HK.out 2 (.int .u64 h2)
    · exact wrote_drewN (wrote_setp (wrote_refl _ _) _ _) _
theorem big_any (A : Option Addr) (n cap : Nat) (w : World) (hn : n ≤ maxLen) :
    Calls Try.prog 4 #[.slice A n cap] w fun e w' => e = .returned (.bool (decide (4096 < n))) ∧ w = w' := by
  unfold maxLen at hn
  go_enter Try.func4, Try.ntmps4
  go_wp2
  go_ret
  exact ⟨ret_bool (by by_cases h : 4096 < n <;> simp [h] <;> omega), rfl⟩
set_option maxRecDepth 100000 in
set_option maxHeartbeats 1600000 in
theorem roll_any (A : Option Addr) (n cap : Nat) (bs : List Int) (seed : Int) (w : World) (hS : SlB w A n bs) (hn : n ≤ 4096) (hs : 0 ≤ seed ∧ seed ≤ 100000) :
    Calls Try.prog 5 #[.slice A n cap, .int .u64 seed] w fun e w' => e = .returned (.pointer (some ⟨w.heap.size, 0, none⟩)) ∧ Dice w' w.heap.size 61 A n cap ∧ Below w.heap.size w w' := by
  obtain ⟨hs0, hs1⟩ := hs
  have HS := Lib.hid hS
  clear hS
  go_enter Try.func5, Try.ntmps5
  go_wp2
  go_loopw [6] (fun i wr => ∃ (k : Nat) (h : Int), k ≤ n ∧ i = .int .i64 (k : Nat) ∧ Blk wr w.heap.size 61 #[.slice A n cap, .int .i64 0, .int .u64 h] ∧ Below w.heap.size w wr) (fun i _ => n - (intOf i).toNat)
  case atStart => exact ⟨0, _, Nat.zero_le _, rfl, Blk.new _ _ _, (Below.refl _ _).alloc (Nat.le_refl _) _⟩
  case round =>
    obtain ⟨k, h, hk, rfl, K, hbl⟩ := hrel
    by_cases hlt : k < n
    · obtain ⟨b, off, rfl, hb, hcell⟩ := HS.out.2.2 (by omega)
      have hc := hcell k hlt
      have hr := HS.out.range k
      generalize bs.getD k 0 = y at hc hr
      obtain ⟨hy0, hy1⟩ := hr
      rw [← hbl.cell (by exact hb)] at hc
      clear hcell
      have hlt' : (k : Int) < (n : Int) := by omega
      have q0 : wr.cell? ⟨w.heap.size, 0, none⟩ = some (.slice (some ⟨b, off, none⟩) n cap) := K.cell 0
      have q2 : wr.cell? ⟨w.heap.size, 2, none⟩ = some (.int .u64 h) := K.cell 2
      have qf2 := K.frozen 2
      have HK := Lib.hid K
      have hbp : b ≠ w.heap.size := by omega
      have hbp' : w.heap.size ≠ b := by omega
      clear K
      go_wp2
      refine wp_region_tail 15 (by kernel_rfl) (by kernel_rfl) ?_
      intro wt hwt
      have K2 : Blk wt w.heap.size 61 #[.slice (some ⟨b, off, none⟩) n cap, .int .i64 0, .int .u64 h] := by rw [hwt]; exact HK.out
      have b2 : Below w.heap.size w wt := by rw [hwt]; exact below_drewN hbl _
      have hc2 : wt.cell? ⟨b, off + k, none⟩ = some (.int .u8 y) := by rw [hwt]; exact hc
      clear hwt q0 q2 qf2 hc
      have q0 : wt.cell? ⟨w.heap.size, 0, none⟩ = some (.slice (some ⟨b, off, none⟩) n cap) := K2.cell 0
      have q2 : wt.cell? ⟨w.heap.size, 2, none⟩ = some (.int .u64 h) := K2.cell 2
      have qf2 := K2.frozen 2
      have HK2 := Lib.hid K2
      clear K2
      simp only [List.take_succ_cons, List.take_zero, List.drop_succ_cons, List.drop_zero]
      repeat still_step
      refine wpStill_nil ?_
      go_wp2
      refine ⟨⟨k + 1, _, by omega, by go_num, HK2.out.set_ 2 _, b2.setCell (Nat.le_refl _) _⟩, by simp [intOf]; omega⟩
    · go_wp2
      go_ret
      exact ⟨rfl, ⟨0, h, Nat.zero_le _, K⟩, hbl⟩
theorem wrote_grow {w a b : World} {p lo : Nat} (h : Wrote w a (some ⟨p, 0, none⟩)) (hb : Below lo a b) (hlo : w.heap.size ≤ lo) : Wrote w b (some ⟨p, 0, none⟩) :=
  ⟨hb.os.trans h.os, hb.tape.trans h.tape, hb.output.trans h.output, Nat.le_trans h.size hb.size, fun i hi hn => (hb.block i (Nat.lt_of_lt_of_le hi hlo)).trans (h.block i hi hn)⟩
theorem SlB.keep {w w' : World} {A : Option Addr} {n : Nat} {bs : List Int} (h : SlB w A n bs) (hs : w.heap.size ≤ w'.heap.size) (hk : 0 < n → ∀ a, A = some a → w'.heap[a.block]? = w.heap[a.block]?) : SlB w' A n bs :=
  ⟨h.1, h.2.1, fun hn => by
    obtain ⟨b, off, rfl, hbl, hj⟩ := h.2.2 hn
    exact ⟨b, off, rfl, Nat.lt_of_lt_of_le hbl hs, fun j hjn => (World.cell?_of_block (a := ⟨b, off + j, none⟩) (hk hn ⟨b, off, none⟩ rfl)).trans (hj j hjn)⟩⟩

/-- Block p is a dice over bytes that lie ahead of it. -/
def DC (w : World) (p D : Nat) : Prop := ∃ (A : Option Addr) (n cap : Nat) (bs : List Int), n ≤ maxLen ∧ SlB w A n bs ∧ (0 < n → ∀ a, A = some a → a.block < p) ∧ Dice w p D A n cap
theorem Dice.lt {w : World} {p D : Nat} {A : Option Addr} {n cap : Nat} (h : Dice w p D A n cap) : p < w.heap.size := by
  obtain ⟨i, x, _, K⟩ := h
  exact K.lt
theorem DC.lt {w : World} {p D : Nat} (h : DC w p D) : p < w.heap.size := by
  obtain ⟨A, n, cap, bs, _, _, _, K⟩ := h
  exact K.lt
theorem DC.keep {w w' : World} {p D : Nat} (h : DC w p D) (hs : w.heap.size ≤ w'.heap.size) (hk : ∀ i, i ≤ p → w'.heap[i]? = w.heap[i]?) : DC w' p D := by
  obtain ⟨A, n, cap, bs, hn, hS, hA, i, x, hi, K⟩ := h
  exact ⟨A, n, cap, bs, hn, hS.keep hs (fun hn a ha => hk _ (Nat.le_of_lt (hA hn a ha))), hA, i, x, hi, (hk p (Nat.le_refl _)).trans K⟩
theorem DC.below {w w' : World} {p D : Nat} (h : DC w p D) {lo : Nat} (hb : Below lo w w') (hp : p < lo) : DC w' p D :=
  h.keep hb.size (fun i hi => hb.block i (by omega))
theorem DC.new {w w' : World} {p D : Nat} (h : DC w p D) (hb : Below w.heap.size w w') : DC w' p D := h.below hb h.lt
theorem DC.far {w : World} {p D : Nat} (h : DC w p D) {q : Addr} (hq : p < q.block) (u : Value) : DC (w.setCell q u) p D :=
  h.keep (by simp) (fun i hi => Below.heap_setCell w q u i (by omega))
theorem DC.alloc {w : World} {p D : Nat} (h : DC w p D) (o : Obj) : DC (w.alloc o) p D := h.new ((Below.refl _ _).alloc (Nat.le_refl _) o)
theorem DC.drew {w : World} {p D : Nat} (h : DC w p D) : DC w.drew p D := h
theorem DC.wrote {w w' : World} {p D : Nat} {A : Option Addr} (h : DC w p D) (hw : Wrote w w' A) (hA : ∀ a, A = some a → p < a.block) : DC w' p D :=
  h.keep hw.size (fun i hi => World.grownBy.block hw i (Nat.lt_of_le_of_lt hi h.lt) (by
    cases A with
    | none => simp
    | some a => simp only [Option.map_some, ne_eq, Option.some.injEq]; have := hA a rfl; omega))
/-- A throw of the dice. -/
def Threw (w : World) (p D : Nat) (m : Int) (e : Ending) (w' : World) : Prop := ∃ x, e = .returned (.int .i64 x) ∧ (0 ≤ x ∧ x < m) ∧ DC w' p D ∧ Wrote w w' (some ⟨p, 0, none⟩)
theorem rowd {w w' : World} {lo E s : Nat} {A : Option Addr} {n c p : Nat} {zs : List Int} (R : Row w lo E s A n c zs) (hw : Wrote w w' (some ⟨p, 0, none⟩)) (hp : p < lo) : Row w' lo E s A n c zs :=
  R.wrote hw (fun a b ha hb => by obtain rfl := Option.some.inj hb; have := R.ge a ha; simp; omega)
theorem below_dc (p : Nat) (m : Int) (w : World) (hD : DC w p 61) (hm : 0 < m) : Calls Try.prog 7 #[.pointer (some ⟨p, 0, none⟩), .int .i64 m] w (Threw w p 61 m) := by
  obtain ⟨A, n, cap, bs, hn, hS, hA, hd⟩ := hD
  refine (below_dice p n cap A bs m w hd hS hn hm (fun h a ha => Nat.ne_of_lt (hA h a ha))).mono ?_
  rintro e w' ⟨x, rfl, x0, x1, hd', hw⟩
  refine ⟨x, rfl, ⟨x0, x1⟩, ⟨A, n, cap, bs, hn, hS.keep hw.size (fun hn' a ha => World.grownBy.block hw _ ?_ ?_), hA, hd'⟩, hw⟩
  · obtain ⟨b, off, hA', hb, _⟩ := hS.2.2 hn'
    rw [ha] at hA'
    obtain rfl := Option.some.inj hA'
    exact hb
  · have := hA hn' a ha
    simp only [Option.map_some, ne_eq, Option.some.injEq]
    omega
theorem roll_dc (A : Option Addr) (n cap : Nat) (bs : List Int) (seed : Int) (w : World) (hS : SlB w A n bs) (hn : n ≤ 4096) (hs : 0 ≤ seed ∧ seed ≤ 100000) :
    Calls Try.prog 5 #[.slice A n cap, .int .u64 seed] w fun e w' => e = .returned (.pointer (some ⟨w.heap.size, 0, none⟩)) ∧ DC w' w.heap.size 61 ∧ Below w.heap.size w w' := by
  refine (roll_any A n cap bs seed w hS hn hs).mono ?_
  rintro e w' ⟨rfl, hd, hb⟩
  refine ⟨rfl, ⟨A, n, cap, bs, by unfold maxLen; omega, hS.below hb, fun hn' a ha => ?_, hd⟩, hb⟩
  obtain ⟨b, off, hA', hl, _⟩ := hS.2.2 hn'
  rw [ha] at hA'
  obtain rfl := Option.some.inj hA'
  exact hl
end Go.Proofs.Ytckbnfgdjdppfaa
