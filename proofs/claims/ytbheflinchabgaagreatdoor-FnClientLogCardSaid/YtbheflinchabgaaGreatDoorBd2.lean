/- Part 2 of what the claim rests on: Sd2, Sd4, Rv, SJob, Lease, Lease2, St1, Job1, J1, M1, J2, S1, S3, J4, J5, S4, J6, RJS, AddL, OnceL, P8, PutL, Del, P10, Lease5, EfL, FoldL, LogL, Lr1, Lr2, LogM, Lo1, CL1, Lr3, Lr4, Lr5, Lr6, Lr7, Lr8, Lr9, Lo2, Lo3, Lo4, Lo6, Lo7. No condition of its own. -/
import Derived.Test.YtbheflinchabgaaGreatDoorBd1
import Derived.Deep.DeepCutAuto
import Derived.Laws.EntriesVeiled
import Derived.OwnWalk
import Derived.WalkSpells
import Derived.Maps.OwnSet
import Derived.Maps.Views
import Derived.Maps.OwnOps
import Derived.Deep.RegionHeldLaw
import Derived.Deep.AppendLies
import Derived.Deep.RegionLaw
namespace Go.Proofs.YtbheflinchabgaaGreatDoor
set_option linter.unusedSimpArgs false
set_option linter.unusedVariables false
attribute [local go_sem] n_lt2 n_lt3 n_lt4 n_le2 n_le3
open Go.RowKit
attribute [local go_sem] Ext.cell Ext.frozen
/-- A message: from, to, row. -/
structure Mg where
  f : Int
  t : Int
  z : List Int
/-- At most one message, in memory of the call's own (blocks from lo on, below hi). -/
def Msgs (w : World) (lo hi : Nat) (A : Option Addr) (ms : List Mg) : Prop :=
  hi ≤ w.heap.size ∧ (ms = [] ∨ ∃ (g : Nat) (R : Option Addr) (rc : Nat) (m : Mg), ms = [m] ∧ A = some ⟨g, 0, none⟩ ∧ lo ≤ g ∧ g < hi ∧ Blk w g 61 #[.int .i64 m.f, .int .i64 m.t, .slice R m.z.length rc] ∧ Row w lo 2 1 R m.z.length rc m.z ∧ (∀ a, R = some a → a.block ≠ g ∧ a.block < hi))
theorem Msgs.le {w : World} {lo hi : Nat} {A : Option Addr} {ms : List Mg} (h : Msgs w lo hi A ms) : hi ≤ w.heap.size := h.1
theorem Msgs.below {w w' : World} {lo hi : Nat} {A : Option Addr} {ms : List Mg} (h : Msgs w lo hi A ms) (b : Below w.heap.size w w') : Msgs w' lo hi A ms := by
  refine ⟨Nat.le_trans h.1 b.size, ?_⟩
  rcases h.2 with h | ⟨g, R, rc, m, h1, h2, h3, h3', h4, h5, h6⟩
  · exact .inl h
  · exact .inr ⟨g, R, rc, m, h1, h2, h3, h3', h4.below b, h5.below b, h6⟩
/-- What SendOf hands back. -/
def RetMsgs (w : World) (ms : List Mg) (e : Ending) (w' : World) : Prop := ∃ A c, e = .returned (.slice A ms.length c) ∧ ms.length ≤ 1 ∧ Msgs w' w.heap.size w'.heap.size A ms ∧ Below w.heap.size w w'
theorem RetMsgs.nil {w w' : World} {ms : List Mg} {A : Option Addr} {c : Nat} (h : ms = []) (b : Below w.heap.size w w') : RetMsgs w ms (.returned (.slice A 0 c)) w' := by
  subst h
  exact ⟨A, c, rfl, by simp, ⟨Nat.le_refl _, .inl rfl⟩, b⟩
theorem RetMsgs.one {w w' : World} {ms : List Mg} {g : Nat} {R : Option Addr} {n rc : Nat} {f t : Int} {z : List Int} (h : ms = [⟨f, t, z⟩]) (hz : z.length = n) (hg : w.heap.size ≤ g) (K : Blk w' g 61 #[.int .i64 f, .int .i64 t, .slice R n rc]) (Rw : Row w' w.heap.size 2 1 R n rc z) (hne : ∀ a, R = some a → a.block ≠ g) (b : Below w.heap.size w w') : RetMsgs w ms (.returned (.slice (some ⟨g, 0, none⟩) 1 1)) w' := by
  subst h hz
  exact ⟨_, 1, rfl, by simp, ⟨Nat.le_refl _, .inr ⟨g, R, rc, ⟨f, t, z⟩, rfl, rfl, hg, K.lt, K, Rw, fun a ha => ⟨hne a ha, Rw.lt a ha⟩⟩⟩, b⟩
/-- The message for the request with number q. -/
def sendM (i0 t0 : Int) (p : Wt) (q : Int) : Mg := if p.k = 4 then ⟨i0, 1, [6, i0, q, p.y, t0]⟩ else ⟨i0, 0, [1, i0, q, p.o, p.a, p.b, p.c, p.d]⟩
def sendL (i0 t0 : Int) (wl : List Wt) (gl : List Gt) : List Mg := if clientB i0 wl gl t0 = true ∧ gl.length ≠ wl.length then [sendM i0 t0 (wl.getD gl.length default) ((gl.length : Int) + 1)] else []
theorem clientB_out {i0 t0 : Int} {wl : List Wt} {gl : List Gt} (h : clientB i0 wl gl t0 = true) : (i0 = 4 ∨ i0 = 5) ∧ wl.length ≤ 12 ∧ (∀ j, j < wl.length → wantOkB (wl.getD j default) = true) ∧ gl.length ≤ wl.length ∧ (∀ j, j < gl.length → gotAt wl gl j = true) ∧ t0 = lastAt gl gl.length := by
  unfold clientB gotsB wantsB at h
  simp only [Bool.and_eq_true, Bool.or_eq_true, decide_eq_true_eq, List.all_eq_true, List.mem_range] at h
  exact ⟨h.1, h.2.1, h.2.2.1, h.2.2.2.1, h.2.2.2.2.1, h.2.2.2.2.2⟩
theorem last_range {wl : List Wt} {gl : List Gt} (h : ∀ j, j < gl.length → gotAt wl gl j = true) : ∀ i, i ≤ gl.length → 0 ≤ lastAt gl i ∧ lastAt gl i ≤ 2000 := by
  intro i
  induction i with
  | zero => intro _; simp [lastAt]
  | succ i ih =>
    intro hi
    have h1 := h i (by omega)
    have h2 := ih (by omega)
    unfold gotAt gotB at h1
    simp only [Bool.and_eq_true, inB_iff] at h1
    have h3 : lastAt gl (i + 1) = (gl.getD i default).x := by unfold lastAt; rw [if_neg (by omega)]; rfl
    rw [h3]
    omega
theorem client_t0 {i0 t0 : Int} {wl : List Wt} {gl : List Gt} (h : clientB i0 wl gl t0 = true) : 0 ≤ t0 ∧ t0 ≤ 2000 := by
  obtain ⟨_, _, _, _, h5, h6⟩ := clientB_out h
  rw [h6]
  exact last_range h5 _ (Nat.le_refl _)
theorem send_read {i0 t0 : Int} {wl : List Wt} {gl : List Gt} (h : clientB i0 wl gl t0 = true) {m : Nat} (hm : gl.length = m) (hlt : m < wl.length) {k o a b c d y : Int} (hp : wl.getD m default = ⟨k, o, a, b, c, d, y⟩) (h4 : k = 4) : readB i0 ((m : Int) + 1) y t0 = true := by
  obtain ⟨h1, h2, h3, _, _, _⟩ := clientB_out h
  have ht := client_t0 h
  have hw := h3 m hlt
  rw [hp] at hw
  unfold wantOkB wantB at hw
  subst h4
  simp [inB_iff] at hw
  unfold readB
  simp only [Bool.and_eq_true, inB_iff]
  omega
theorem send_ask {i0 t0 : Int} {wl : List Wt} {gl : List Gt} (h : clientB i0 wl gl t0 = true) {m : Nat} (hm : gl.length = m) (hlt : m < wl.length) {k o a b c d y : Int} (hp : wl.getD m default = ⟨k, o, a, b, c, d, y⟩) (h4 : ¬ k = 4) : askB i0 ((m : Int) + 1) o a b c d = true := by
  obtain ⟨h1, h2, h3, _, _, _⟩ := clientB_out h
  have hw := h3 m hlt
  rw [hp] at hw
  unfold wantOkB wantB at hw
  simp only at hw
  unfold askB
  simp only [Bool.and_eq_true, inB_iff]
  refine ⟨by omega, by omega, ?_⟩
  by_cases hk : k = 1 ∨ k = 2 ∨ k = 3
  · rw [if_pos hk] at hw
    simp only [Bool.and_eq_true] at hw
    exact hw.1
  · rw [if_neg hk, if_neg h4] at hw
    exact absurd hw (by simp)
abbrev Kp47 (w0 : World) (g0 g1 : Nat) (x0y0 x0y1 x0y2 x0y3 x1y0 x1y1 x1y2 x1y3 x1y4 x1y5 x1y6 : Value) (w' : World) : Prop := Below w0.heap.size w0 w' ∧ w'.cell? ⟨g0, 0, none⟩ = some (x0y0) ∧ w'.cell? ⟨g0, 1, none⟩ = some (x0y1) ∧ w'.cell? ⟨g0, 2, none⟩ = some (x0y2) ∧ w'.cell? ⟨g0, 3, none⟩ = some (x0y3) ∧ w'.cell? ⟨g1, 0, none⟩ = some (x1y0) ∧ w'.cell? ⟨g1, 1, none⟩ = some (x1y1) ∧ w'.cell? ⟨g1, 2, none⟩ = some (x1y2) ∧ w'.cell? ⟨g1, 3, none⟩ = some (x1y3) ∧ w'.cell? ⟨g1, 4, none⟩ = some (x1y4) ∧ w'.cell? ⟨g1, 5, none⟩ = some (x1y5) ∧ w'.cell? ⟨g1, 6, none⟩ = some (x1y6)
theorem Kp47.of {w0 : World} {g0 g1 : Nat} {x0y0 x0y1 x0y2 x0y3 x1y0 x1y1 x1y2 x1y3 x1y4 x1y5 x1y6 : Value} {e0 e1 : TypeId} (K0 : Blk w0 g0 e0 #[x0y0, x0y1, x0y2, x0y3]) (K1 : Blk w0 g1 e1 #[x1y0, x1y1, x1y2, x1y3, x1y4, x1y5, x1y6]) {w' : World} (h : Below w0.heap.size w0 w') : Kp47 w0 g0 g1 x0y0 x0y1 x0y2 x0y3 x1y0 x1y1 x1y2 x1y3 x1y4 x1y5 x1y6 w' := ⟨h, (K0.below h).cell 0, (K0.below h).cell 1, (K0.below h).cell 2, (K0.below h).cell 3, (K1.below h).cell 0, (K1.below h).cell 1, (K1.below h).cell 2, (K1.below h).cell 3, (K1.below h).cell 4, (K1.below h).cell 5, (K1.below h).cell 6⟩
theorem Kp47.b {w0 : World} {g0 g1 : Nat} {x0y0 x0y1 x0y2 x0y3 x1y0 x1y1 x1y2 x1y3 x1y4 x1y5 x1y6 : Value} {w' : World} (h : Kp47 w0 g0 g1 x0y0 x0y1 x0y2 x0y3 x1y0 x1y1 x1y2 x1y3 x1y4 x1y5 x1y6 w') : Below w0.heap.size w0 w' := h.1
theorem Kp47.le {w0 : World} {g0 g1 : Nat} {x0y0 x0y1 x0y2 x0y3 x1y0 x1y1 x1y2 x1y3 x1y4 x1y5 x1y6 : Value} {w' : World} (h : Kp47 w0 g0 g1 x0y0 x0y1 x0y2 x0y3 x1y0 x1y1 x1y2 x1y3 x1y4 x1y5 x1y6 w') : w0.heap.size ≤ w'.heap.size := h.1.size
theorem Kp47.drew {w0 : World} {g0 g1 : Nat} {x0y0 x0y1 x0y2 x0y3 x1y0 x1y1 x1y2 x1y3 x1y4 x1y5 x1y6 : Value} {e0 e1 : TypeId} (K0 : Blk w0 g0 e0 #[x0y0, x0y1, x0y2, x0y3]) (K1 : Blk w0 g1 e1 #[x1y0, x1y1, x1y2, x1y3, x1y4, x1y5, x1y6]) {w' : World} (h : Kp47 w0 g0 g1 x0y0 x0y1 x0y2 x0y3 x1y0 x1y1 x1y2 x1y3 x1y4 x1y5 x1y6 w') : Kp47 w0 g0 g1 x0y0 x0y1 x0y2 x0y3 x1y0 x1y1 x1y2 x1y3 x1y4 x1y5 x1y6 w'.drew := Kp47.of K0 K1 h.1.drew
theorem Kp47.alloc {w0 : World} {g0 g1 : Nat} {x0y0 x0y1 x0y2 x0y3 x1y0 x1y1 x1y2 x1y3 x1y4 x1y5 x1y6 : Value} {e0 e1 : TypeId} (K0 : Blk w0 g0 e0 #[x0y0, x0y1, x0y2, x0y3]) (K1 : Blk w0 g1 e1 #[x1y0, x1y1, x1y2, x1y3, x1y4, x1y5, x1y6]) {w' : World} (h : Kp47 w0 g0 g1 x0y0 x0y1 x0y2 x0y3 x1y0 x1y1 x1y2 x1y3 x1y4 x1y5 x1y6 w') (o : Obj) : Kp47 w0 g0 g1 x0y0 x0y1 x0y2 x0y3 x1y0 x1y1 x1y2 x1y3 x1y4 x1y5 x1y6 (w'.alloc o) := Kp47.of K0 K1 (h.1.alloc h.1.size o)
theorem Kp47.after {w0 : World} {g0 g1 : Nat} {x0y0 x0y1 x0y2 x0y3 x1y0 x1y1 x1y2 x1y3 x1y4 x1y5 x1y6 : Value} {e0 e1 : TypeId} (K0 : Blk w0 g0 e0 #[x0y0, x0y1, x0y2, x0y3]) (K1 : Blk w0 g1 e1 #[x1y0, x1y1, x1y2, x1y3, x1y4, x1y5, x1y6]) {w' w2 : World} (h : Kp47 w0 g0 g1 x0y0 x0y1 x0y2 x0y3 x1y0 x1y1 x1y2 x1y3 x1y4 x1y5 x1y6 w') (b : Below w'.heap.size w' w2) : Kp47 w0 g0 g1 x0y0 x0y1 x0y2 x0y3 x1y0 x1y1 x1y2 x1y3 x1y4 x1y5 x1y6 w2 := Kp47.of K0 K1 (bthen h.1 b)
theorem Kp47.ad {w0 : World} {g0 g1 : Nat} {x0y0 x0y1 x0y2 x0y3 x1y0 x1y1 x1y2 x1y3 x1y4 x1y5 x1y6 : Value} {e0 e1 : TypeId} (K0 : Blk w0 g0 e0 #[x0y0, x0y1, x0y2, x0y3]) (K1 : Blk w0 g1 e1 #[x1y0, x1y1, x1y2, x1y3, x1y4, x1y5, x1y6]) {w' : World} (h : Kp47 w0 g0 g1 x0y0 x0y1 x0y2 x0y3 x1y0 x1y1 x1y2 x1y3 x1y4 x1y5 x1y6 w'.drew) (o : Obj) : Kp47 w0 g0 g1 x0y0 x0y1 x0y2 x0y3 x1y0 x1y1 x1y2 x1y3 x1y4 x1y5 x1y6 (w'.alloc o).drew := Kp47.of K0 K1 (Below.drew (Below.alloc (show Below w0.heap.size w0 w' from ⟨h.1.os, h.1.tape, h.1.output, h.1.size, h.1.block⟩) h.1.size o))
set_option maxHeartbeats 1000000 in
theorem kindOf_ask (c s k a b x y : Int) (w : World) :
    Calls Tryz.prog 98 #[.iface 56 (.agg #[.int .i64 c, .int .i64 s, .int .i64 k, .int .i64 a, .int .i64 b, .int .i64 x, .int .i64 y])] w fun e w' => e = .returned (.int .i64 1) ∧ w = w' := by
  have a0 : ∀ w : World, (Instr.typeAssert (.iface 56 (.agg #[.int .i64 c, .int .i64 s, .int .i64 k, .int .i64 a, .int .i64 b, .int .i64 x, .int .i64 y])) 183 56 true).run Tryz.prog w = .ok (.tuple #[.agg #[.int .i64 c, .int .i64 s, .int .i64 k, .int .i64 a, .int .i64 b, .int .i64 x, .int .i64 y], .bool true]) w := fun _ => by kernel_rfl
  go_enter Tryz.func98, Tryz.ntmps98
  go_wp2
  go_ret
  exact ⟨rfl, rfl⟩
set_option maxHeartbeats 1000000 in
theorem kindOf_read (c s k l : Int) (w : World) :
    Calls Tryz.prog 98 #[.iface 87 (.agg #[.int .i64 c, .int .i64 s, .int .i64 k, .int .i64 l])] w fun e w' => e = .returned (.int .i64 6) ∧ w = w' := by
  have a0 : ∀ w : World, (Instr.typeAssert (.iface 87 (.agg #[.int .i64 c, .int .i64 s, .int .i64 k, .int .i64 l])) 183 56 true).run Tryz.prog w = .ok (.tuple #[.agg #[.int .i64 0, .int .i64 0, .int .i64 0, .int .i64 0, .int .i64 0, .int .i64 0, .int .i64 0], .bool false]) w := fun _ => by kernel_rfl
  have a1 : ∀ w : World, (Instr.typeAssert (.iface 87 (.agg #[.int .i64 c, .int .i64 s, .int .i64 k, .int .i64 l])) 183 71 true).run Tryz.prog w = .ok (.tuple #[.agg #[.int .i64 0, .int .i64 0, .int .i64 0, .int .i64 0], .bool false]) w := fun _ => by kernel_rfl
  have a2 : ∀ w : World, (Instr.typeAssert (.iface 87 (.agg #[.int .i64 c, .int .i64 s, .int .i64 k, .int .i64 l])) 183 221 true).run Tryz.prog w = .ok (.tuple #[.int .i64 0, .bool false]) w := fun _ => by kernel_rfl
  have a3 : ∀ w : World, (Instr.typeAssert (.iface 87 (.agg #[.int .i64 c, .int .i64 s, .int .i64 k, .int .i64 l])) 183 223 true).run Tryz.prog w = .ok (.tuple #[.agg #[.int .i64 0, .int .i64 0, .slice none 0 0], .bool false]) w := fun _ => by kernel_rfl
  have a4 : ∀ w : World, (Instr.typeAssert (.iface 87 (.agg #[.int .i64 c, .int .i64 s, .int .i64 k, .int .i64 l])) 183 224 true).run Tryz.prog w = .ok (.tuple #[.int .i64 0, .bool false]) w := fun _ => by kernel_rfl
  have a5 : ∀ w : World, (Instr.typeAssert (.iface 87 (.agg #[.int .i64 c, .int .i64 s, .int .i64 k, .int .i64 l])) 183 87 true).run Tryz.prog w = .ok (.tuple #[.agg #[.int .i64 c, .int .i64 s, .int .i64 k, .int .i64 l], .bool true]) w := fun _ => by kernel_rfl
  go_enter Tryz.func98, Tryz.ntmps98
  go_wp2
  go_ret
  exact ⟨rfl, rfl⟩
theorem bstep2 {lo : Nat} {w a b : World} (h1 : Below w.heap.size w a) (h2 : Below lo a b) (h : w.heap.size ≤ lo) : Below w.heap.size w b := h1.trans (h2.mono h)
set_option maxRecDepth 100000 in
set_option maxHeartbeats 2000000 in
theorem encAsk_yes (c s k a b x y : Int) (w : World) (h : askB c s k a b x y = true) :
    Calls Tryz.prog 52 #[.iface 56 (.agg #[.int .i64 c, .int .i64 s, .int .i64 k, .int .i64 a, .int .i64 b, .int .i64 x, .int .i64 y])] w (RetRow w 2 1 8 [1, c, s, k, a, b, x, y]) := by
  have n1 : ∀ w : World, (nilAhead 372 56 (.agg #[.int .i64 c, .int .i64 s, .int .i64 k, .int .i64 a, .int .i64 b, .int .i64 x, .int .i64 y]) "loop.example/g00851/impl.valid").run Tryz.prog w = .ok (some false) w := fun _ => by kernel_rfl
  have n2 : ∀ w : World, (method 372 56 (.agg #[.int .i64 c, .int .i64 s, .int .i64 k, .int .i64 a, .int .i64 b, .int .i64 x, .int .i64 y]) "loop.example/g00851/impl.valid").run Tryz.prog w = .ok (151, .agg #[.int .i64 c, .int .i64 s, .int .i64 k, .int .i64 a, .int .i64 b, .int .i64 x, .int .i64 y]) w := fun _ => by kernel_rfl
  have n3 : ∀ w : World, (nilAhead 372 56 (.agg #[.int .i64 c, .int .i64 s, .int .i64 k, .int .i64 a, .int .i64 b, .int .i64 x, .int .i64 y]) "loop.example/g00851/impl.fields").run Tryz.prog w = .ok (some false) w := fun _ => by kernel_rfl
  have n4 : ∀ w : World, (method 372 56 (.agg #[.int .i64 c, .int .i64 s, .int .i64 k, .int .i64 a, .int .i64 b, .int .i64 x, .int .i64 y]) "loop.example/g00851/impl.fields").run Tryz.prog w = .ok (150, .agg #[.int .i64 c, .int .i64 s, .int .i64 k, .int .i64 a, .int .i64 b, .int .i64 x, .int .i64 y]) w := fun _ => by kernel_rfl
  have cv := askValid_any c s k a b x y w
  rw [h] at cv
  clear h
  go_enter Tryz.func52, Tryz.ntmps52
  go_wp2_with fail
  refine cv.mono ?_
  rintro e v1 ⟨rfl, b1⟩
  clear cv
  go_wp2_with fail
  refine (kindOf_ask c s k a b x y v1).mono ?_
  rintro e w' ⟨rfl, rfl⟩
  go_wp2_with fail
  refine calls_named ?_
  rintro v2 hv2
  have K2 : Blk v2 v1.heap.size 2 #[.int .i64 1] := by rw [hv2]; exact Blk.new _ _ _
  have b2 : Below v1.heap.size v1 v2 := by rw [hv2]; (repeat' (first | (with_reducible exact Below.refl _ _) | (with_reducible assumption) | (with_reducible refine Below.alloc ?_ ?_ _) | (with_reducible refine Below.drew ?_) | (with_reducible refine Below.setCell ?_ ?_ _) | (with_reducible refine bstep (by assumption) ?_ ?_) | (with_reducible exact Nat.le_refl _) | omega | (simp [*]; done) | (simp [*]; omega)))
  clear hv2
  refine (askFields_any c s k a b x y v2).mono ?_
  rintro e v3 ⟨A1, c1, rfl, R1, b3⟩
  obtain ⟨g1, cs1, rfl, -, -, -, -, -, -⟩ := R1.blk (by decide)
  have K3 := row_lit [1] (K2.below b3) rfl (Nat.le_refl _) (by simp [maxLen]) rfl
  have S3 := slices_of R1.sl rfl
  have z3 := Nat.le_trans b2.size b3.size
  have HB := Lib.hid (bthen b1 (bthen b2 b3))
  clear K2 b2 b3 n1 n2 n3 n4
  go_wp2_with (at_builtin; refine wpList_append_row rfl _ _ 59 rfl 2 (.int .i64 0) 1 8 Tryz.underlying59 info_Int64 rfl (by decide) v1.heap.size (some ⟨v1.heap.size, 0, none⟩) 1 1 [1] rfl K3 ⟨g1, 0, none⟩ 7 c1 [c, s, k, a, b, x, y] rfl rfl S3 (by simp [maxLen]) (by decide) z3 ?_; intro A5 c5 w5 R5 B5)
  go_ret
  exact RetRow.mk (R5.mono b1.size) (bstep2 HB.out B5 b1.size)
set_option maxRecDepth 100000 in
set_option maxHeartbeats 2000000 in
theorem encRead_yes (c s k l : Int) (w : World) (h : readB c s k l = true) :
    Calls Tryz.prog 52 #[.iface 87 (.agg #[.int .i64 c, .int .i64 s, .int .i64 k, .int .i64 l])] w (RetRow w 2 1 5 [6, c, s, k, l]) := by
  have n1 : ∀ w : World, (nilAhead 372 87 (.agg #[.int .i64 c, .int .i64 s, .int .i64 k, .int .i64 l]) "loop.example/g00851/impl.valid").run Tryz.prog w = .ok (some false) w := fun _ => by kernel_rfl
  have n2 : ∀ w : World, (method 372 87 (.agg #[.int .i64 c, .int .i64 s, .int .i64 k, .int .i64 l]) "loop.example/g00851/impl.valid").run Tryz.prog w = .ok (155, .agg #[.int .i64 c, .int .i64 s, .int .i64 k, .int .i64 l]) w := fun _ => by kernel_rfl
  have n3 : ∀ w : World, (nilAhead 372 87 (.agg #[.int .i64 c, .int .i64 s, .int .i64 k, .int .i64 l]) "loop.example/g00851/impl.fields").run Tryz.prog w = .ok (some false) w := fun _ => by kernel_rfl
  have n4 : ∀ w : World, (method 372 87 (.agg #[.int .i64 c, .int .i64 s, .int .i64 k, .int .i64 l]) "loop.example/g00851/impl.fields").run Tryz.prog w = .ok (154, .agg #[.int .i64 c, .int .i64 s, .int .i64 k, .int .i64 l]) w := fun _ => by kernel_rfl
  have cv := readValid_any c s k l w
  rw [h] at cv
  clear h
  go_enter Tryz.func52, Tryz.ntmps52
  go_wp2_with fail
  refine cv.mono ?_
  rintro e v1 ⟨rfl, b1⟩
  clear cv
  go_wp2_with fail
  refine (kindOf_read c s k l v1).mono ?_
  rintro e w' ⟨rfl, rfl⟩
  go_wp2_with fail
  refine calls_named ?_
  rintro v2 hv2
  have K2 : Blk v2 v1.heap.size 2 #[.int .i64 6] := by rw [hv2]; exact Blk.new _ _ _
  have b2 : Below v1.heap.size v1 v2 := by rw [hv2]; (repeat' (first | (with_reducible exact Below.refl _ _) | (with_reducible assumption) | (with_reducible refine Below.alloc ?_ ?_ _) | (with_reducible refine Below.drew ?_) | (with_reducible refine Below.setCell ?_ ?_ _) | (with_reducible refine bstep (by assumption) ?_ ?_) | (with_reducible exact Nat.le_refl _) | omega | (simp [*]; done) | (simp [*]; omega)))
  clear hv2
  refine (readFields_any c s k l v2).mono ?_
  rintro e v3 ⟨A1, c1, rfl, R1, b3⟩
  obtain ⟨g1, cs1, rfl, -, -, -, -, -, -⟩ := R1.blk (by decide)
  have K3 := row_lit [6] (K2.below b3) rfl (Nat.le_refl _) (by simp [maxLen]) rfl
  have S3 := slices_of R1.sl rfl
  have z3 := Nat.le_trans b2.size b3.size
  have HB := Lib.hid (bthen b1 (bthen b2 b3))
  clear K2 b2 b3 n1 n2 n3 n4
  go_wp2_with (at_builtin; refine wpList_append_row rfl _ _ 59 rfl 2 (.int .i64 0) 1 8 Tryz.underlying59 info_Int64 rfl (by decide) v1.heap.size (some ⟨v1.heap.size, 0, none⟩) 1 1 [6] rfl K3 ⟨g1, 0, none⟩ 4 c1 [c, s, k, l] rfl rfl S3 (by simp [maxLen]) (by decide) z3 ?_; intro A5 c5 w5 R5 B5)
  go_ret
  exact RetRow.mk (R5.mono b1.size) (bstep2 HB.out B5 b1.size)
set_option maxHeartbeats 1000000 in
theorem askRow_yes (c s k a b x y : Int) (w : World) (h : askB c s k a b x y = true) :
    Calls Tryz.prog 24 #[.agg #[.int .i64 c, .int .i64 s, .int .i64 k, .int .i64 a, .int .i64 b, .int .i64 x, .int .i64 y]] w (RetRow w 2 1 8 [1, c, s, k, a, b, x, y]) := by
  have H := Lib.hid h
  clear h
  go_enter Tryz.func24, Tryz.ntmps24
  go_wp2_with fail
  refine calls_named ?_
  rintro v1 hv1
  have b1 : Below w.heap.size w v1 := by rw [hv1]; (repeat' (first | (with_reducible exact Below.refl _ _) | (with_reducible assumption) | (with_reducible refine Below.alloc ?_ ?_ _) | (with_reducible refine Below.drew ?_) | (with_reducible refine Below.setCell ?_ ?_ _) | (with_reducible refine bstep (by assumption) ?_ ?_) | (with_reducible exact Nat.le_refl _) | omega | (simp [*]; done) | (simp [*]; omega)))
  clear hv1
  refine (encAsk_yes c s k a b x y v1 H.out).mono ?_
  rintro e v2 ⟨A1, c1, rfl, R1, b2⟩
  go_wp2_with fail
  go_ret
  exact RetRow.mk (R1.mono b1.size) (bthen b1 b2)
set_option maxHeartbeats 1000000 in
theorem readRow_yes (c s k l : Int) (w : World) (h : readB c s k l = true) :
    Calls Tryz.prog 23 #[.agg #[.int .i64 c, .int .i64 s, .int .i64 k, .int .i64 l]] w (RetRow w 2 1 5 [6, c, s, k, l]) := by
  have H := Lib.hid h
  clear h
  go_enter Tryz.func23, Tryz.ntmps23
  go_wp2_with fail
  refine calls_named ?_
  rintro v1 hv1
  have b1 : Below w.heap.size w v1 := by rw [hv1]; (repeat' (first | (with_reducible exact Below.refl _ _) | (with_reducible assumption) | (with_reducible refine Below.alloc ?_ ?_ _) | (with_reducible refine Below.drew ?_) | (with_reducible refine Below.setCell ?_ ?_ _) | (with_reducible refine bstep (by assumption) ?_ ?_) | (with_reducible exact Nat.le_refl _) | omega | (simp [*]; done) | (simp [*]; omega)))
  clear hv1
  refine (encRead_yes c s k l v1 H.out).mono ?_
  rintro e v2 ⟨A1, c1, rfl, R1, b2⟩
  go_wp2_with fail
  go_ret
  exact RetRow.mk (R1.mono b1.size) (bthen b1 b2)
set_option maxRecDepth 100000 in
set_option maxHeartbeats 4000000 in
theorem sendOf_any (A : Option Addr) (n c : Nat) (B : Option Addr) (m d : Nat) (i0 t0 : Int) (wl : List Wt) (gl : List Gt) (w : World) (hP : Sl w 7 A n (WT wl)) (hQ : Sl w 4 B m (GT gl)) (hl : wl.length = n) (hr : gl.length = m) (hn : n ≤ maxLen) (hm : m ≤ maxLen) :
    Calls Tryz.prog 9 #[.agg #[.int .i64 i0, .slice A n c, .slice B m d, .int .i64 t0]] w (RetMsgs w (sendL i0 t0 wl gl)) := by
  have hL := Lib.hid hl
  have hR := Lib.hid hr
  have HP := Lib.hid hP
  have HQ := Lib.hid hQ
  clear hP hQ hl hr
  go_enter Tryz.func9, Tryz.ntmps9
  go_wp2_with fail
  refine calls_named ?_
  rintro v0 hv0
  have f0 : Below w.heap.size w v0 := by rw [hv0]; (repeat' (first | (with_reducible exact Below.refl _ _) | (with_reducible assumption) | (with_reducible refine Below.alloc ?_ ?_ _) | (with_reducible refine Below.drew ?_) | (with_reducible refine Below.setCell ?_ ?_ _) | (with_reducible refine bstep (by assumption) ?_ ?_) | (with_reducible exact Nat.le_refl _) | omega | (simp [*]; done) | (simp [*]; omega)))
  have HK := Lib.hid (show Blk v0 w.heap.size 35 #[.int .i64 i0, .slice A n c, .slice B m d, .int .i64 t0] by rw [hv0]; exact Blk.new _ _ _)
  clear hv0
  have c1 := clientOk_any A n c B m d i0 t0 wl gl v0 (HP.out.below f0) (HQ.out.below f0) hL.out hR.out hn hm
  unfold maxLen at hn hm
  cases hq : clientB i0 wl gl t0 with
  | false =>
    have HV := Lib.hid (show sendL i0 t0 wl gl = [] by unfold sendL; rw [if_neg (by rw [hq]; simp)])
    rw [hq] at c1
    clear hq
    refine c1.mono ?_
    rintro e v1 ⟨rfl, b1⟩
    have f1 := bthen f0 b1
    have HC1 := Lib.hid (HK.out.below b1)
    clear c1 b1 HK f0
    go_wp21
    go_ret
    exact RetMsgs.nil HV.out f1
  | true =>
    have hle := clientB_le hq
    rw [hL.out, hR.out] at hle
    obtain ⟨hn12, hmn0⟩ := hle
    rw [hq] at c1
    refine c1.mono ?_
    rintro e v1 ⟨rfl, b1⟩
    have f1 := bthen f0 b1
    have HC1 := Lib.hid (HK.out.below b1)
    clear c1 b1 HK f0
    have lt_r_c := HC1.out.lt
    obtain ⟨r_c0, r_c1, r_c2, r_c3⟩ := bc4 HC1.out
    by_cases hmn : m = n
    · have HV := Lib.hid (show sendL i0 t0 wl gl = [] by unfold sendL; rw [if_neg (by rw [hR.out, hL.out]; exact fun h => h.2 hmn)])
      have h2 := Lib.hid (show pendS wl gl = 0 by unfold pendS; rw [if_pos (by rw [hL.out, hR.out]; exact hmn)])
      have c2 := pending_any A n c B m d i0 t0 wl gl v1 (HP.out.below f1) (HQ.out.below f1) hL.out hR.out (by unfold maxLen; omega) (by unfold maxLen; omega) hmn0
      rw [h2.out] at c2
      clear hq hmn
      generalize pendW wl gl = pw at c2
      obtain ⟨k, o, a, b, c0, d0, y⟩ := pw
      simp only at c2
      go_wp2_with fail
      refine c2.mono ?_
      rintro e v2 ⟨rfl, b2⟩
      have f2 := bthen f1 b2
      clear c2 lt_r_c r_c0 r_c1 r_c2 r_c3
      go_wp2
      go_ret
      exact RetMsgs.nil HV.out (f2.alloc f2.size _)
    · have hlt : m < n := by omega
      have hnz : ¬ (m : Int) + 1 = 0 := by omega
      have hnzb : ((m : Int) + 1 == 0) = false := by simpa using hnz
      have h2 := Lib.hid (show pendS wl gl = (m : Int) + 1 by unfold pendS; rw [if_neg (by rw [hL.out, hR.out]; exact hmn), hR.out])
      have h1 := Lib.hid (show pendW wl gl = wl.getD m default by unfold pendW; rw [if_neg (by rw [hL.out, hR.out]; exact hmn), hR.out])
      have c2 := pending_any A n c B m d i0 t0 wl gl v1 (HP.out.below f1) (HQ.out.below f1) hL.out hR.out (by unfold maxLen; omega) (by unfold maxLen; omega) hmn0
      rw [h2.out, h1.out] at c2
      generalize hp : wl.getD m default = p at c2
      obtain ⟨k, o, a, b, c0, d0, y⟩ := p
      simp only at c2
      by_cases h4 : k = 4
      · have HR2 := Lib.hid (send_read hq hR.out (by have := hL.out; omega) hp h4)
        have HV := Lib.hid (show sendL i0 t0 wl gl = [⟨i0, 1, [6, i0, ((m : Int) + 1), y, t0]⟩] by unfold sendL sendM; rw [if_pos ⟨hq, by rw [hR.out, hL.out]; exact hmn⟩, hR.out, hp, if_pos h4])
        clear hp hq
        have h4b : (k == 4) = true := by simpa using h4
        clear h4
        go_wp2_with fail
        refine c2.mono ?_
        rintro e v2 ⟨rfl, b2⟩
        have f2 := bthen f1 b2
        have HC2' := Lib.hid (HC1.out.below b2)
        clear c2 b2 lt_r_c r_c0 r_c1 r_c2 r_c3
        go_wp2
        obtain ⟨v3, hv3⟩ : ∃ v : World, v = v2.alloc (.cells #[.int .i64 k, .int .i64 o, .int .i64 a, .int .i64 b, .int .i64 c0, .int .i64 d0, .int .i64 y] 32) := ⟨_, rfl⟩
        try rw [← hv3]
        obtain ⟨g2, hg2⟩ : ∃ g, g = v2.heap.size := ⟨_, rfl⟩
        try rw [← hg2]
        have HC3 : Hid (Blk v3 w.heap.size 35 #[.int .i64 i0, .slice A n c, .slice B m d, .int .i64 t0]) := by rw [hv3]; exact HC2'.out.alloc _
        have HW3 : Hid (Blk v3 g2 32 #[.int .i64 k, .int .i64 o, .int .i64 a, .int .i64 b, .int .i64 c0, .int .i64 d0, .int .i64 y]) := by rw [hv3, hg2]; exact Blk.new _ _ _
        have HF : Hid (Below w.heap.size w v3) := by rw [hv3]; exact f2.alloc f2.size _
        have hgw : w.heap.size < g2 := by rw [hg2]; exact HC2'.out.lt
        clear hv3 hg2 f1 f2 HC2'
        have hw2 := hgw
        obtain ⟨q_c0, q_c1, q_c2, q_c3⟩ := bc4 HC3.out
        have lt_w := HW3.out.lt
        obtain ⟨q_w0, q_w1, q_w2, q_w3, q_w4, q_w5, q_w6⟩ := bc7 HW3.out
        go_region_held_law (fun w' => Below v3.heap.size v3 w' ∧ w'.cell? ⟨w.heap.size, 0, none⟩ = some (.int .i64 i0) ∧ w'.cell? ⟨w.heap.size, 1, none⟩ = some (.slice A n c) ∧ w'.cell? ⟨w.heap.size, 2, none⟩ = some (.slice B m d) ∧ w'.cell? ⟨w.heap.size, 3, none⟩ = some (.int .i64 t0) ∧ w'.cell? ⟨g2, 0, none⟩ = some (.int .i64 k) ∧ w'.cell? ⟨g2, 1, none⟩ = some (.int .i64 o) ∧ w'.cell? ⟨g2, 2, none⟩ = some (.int .i64 a) ∧ w'.cell? ⟨g2, 3, none⟩ = some (.int .i64 b) ∧ w'.cell? ⟨g2, 4, none⟩ = some (.int .i64 c0) ∧ w'.cell? ⟨g2, 5, none⟩ = some (.int .i64 d0) ∧ w'.cell? ⟨g2, 6, none⟩ = some (.int .i64 y)) (first | with_reducible exact Kp47.of HC3.out HW3.out (Below.drew (Below.refl _ _)) | with_reducible exact Kp47.drew HC3.out HW3.out (by assumption) | with_reducible exact Kp47.ad HC3.out HW3.out (by assumption) _ | with_reducible exact Kp47.alloc HC3.out HW3.out (by assumption) _ | with_reducible exact Kp47.after HC3.out HW3.out (by assumption) (by assumption))
          (first | (go_at_call 23; refine (readRow_yes i0 ((m : Int) + 1) y t0 _ HR2.out).mono ?_; rintro e u1 ⟨R, rc, rfl, RR, bR⟩))
        all_goals
          have hF := (@Kp47.b v3 (w.heap.size) (g2) (.int .i64 i0) (.slice A n c) (.slice B m d) (.int .i64 t0) (.int .i64 k) (.int .i64 o) (.int .i64 a) (.int .i64 b) (.int .i64 c0) (.int .i64 d0) (.int .i64 y) _ (by assumption))
          rename_i hHx
          clear hHx
          go_wp2
          refine bodyPost_ret (v := .slice (some ⟨u1.heap.size, 0, none⟩) 1 1) (by simp [results, Tryz.results9, go_sem]) rfl ?_
          exact RetMsgs.one (f := i0) (t := 1) (z := [6, i0, ((m : Int) + 1), y, t0]) HV.out rfl (Nat.le_trans (Nat.le_of_lt hw2) (Nat.le_trans (Nat.le_of_lt HW3.out.lt) bR.size)) (Blk.new _ _ _) ((RR.mono (Nat.le_trans (Nat.le_of_lt hw2) (Nat.le_of_lt HW3.out.lt))).alloc _) (fun a ha => Nat.ne_of_lt (RR.lt a ha)) (bthen HF.out hF)
      · have HR2 := Lib.hid (send_ask hq hR.out (by have := hL.out; omega) hp h4)
        have HV := Lib.hid (show sendL i0 t0 wl gl = [⟨i0, 0, [1, i0, ((m : Int) + 1), o, a, b, c0, d0]⟩] by unfold sendL sendM; rw [if_pos ⟨hq, by rw [hR.out, hL.out]; exact hmn⟩, hR.out, hp, if_neg h4])
        clear hp hq
        have h4b : (k == 4) = false := by simpa using h4
        go_wp2_with fail
        refine c2.mono ?_
        rintro e v2 ⟨rfl, b2⟩
        have f2 := bthen f1 b2
        have HC2' := Lib.hid (HC1.out.below b2)
        clear c2 b2 lt_r_c r_c0 r_c1 r_c2 r_c3
        go_wp2
        obtain ⟨v3, hv3⟩ : ∃ v : World, v = v2.alloc (.cells #[.int .i64 k, .int .i64 o, .int .i64 a, .int .i64 b, .int .i64 c0, .int .i64 d0, .int .i64 y] 32) := ⟨_, rfl⟩
        try rw [← hv3]
        obtain ⟨g2, hg2⟩ : ∃ g, g = v2.heap.size := ⟨_, rfl⟩
        try rw [← hg2]
        have HC3 : Hid (Blk v3 w.heap.size 35 #[.int .i64 i0, .slice A n c, .slice B m d, .int .i64 t0]) := by rw [hv3]; exact HC2'.out.alloc _
        have HW3 : Hid (Blk v3 g2 32 #[.int .i64 k, .int .i64 o, .int .i64 a, .int .i64 b, .int .i64 c0, .int .i64 d0, .int .i64 y]) := by rw [hv3, hg2]; exact Blk.new _ _ _
        have HF : Hid (Below w.heap.size w v3) := by rw [hv3]; exact f2.alloc f2.size _
        have hgw : w.heap.size < g2 := by rw [hg2]; exact HC2'.out.lt
        clear hv3 hg2 f1 f2 HC2'
        have hw2 := hgw
        obtain ⟨q_c0, q_c1, q_c2, q_c3⟩ := bc4 HC3.out
        have lt_w := HW3.out.lt
        obtain ⟨q_w0, q_w1, q_w2, q_w3, q_w4, q_w5, q_w6⟩ := bc7 HW3.out
        go_region_held_law (fun w' => Below v3.heap.size v3 w' ∧ w'.cell? ⟨w.heap.size, 0, none⟩ = some (.int .i64 i0) ∧ w'.cell? ⟨w.heap.size, 1, none⟩ = some (.slice A n c) ∧ w'.cell? ⟨w.heap.size, 2, none⟩ = some (.slice B m d) ∧ w'.cell? ⟨w.heap.size, 3, none⟩ = some (.int .i64 t0) ∧ w'.cell? ⟨g2, 0, none⟩ = some (.int .i64 k) ∧ w'.cell? ⟨g2, 1, none⟩ = some (.int .i64 o) ∧ w'.cell? ⟨g2, 2, none⟩ = some (.int .i64 a) ∧ w'.cell? ⟨g2, 3, none⟩ = some (.int .i64 b) ∧ w'.cell? ⟨g2, 4, none⟩ = some (.int .i64 c0) ∧ w'.cell? ⟨g2, 5, none⟩ = some (.int .i64 d0) ∧ w'.cell? ⟨g2, 6, none⟩ = some (.int .i64 y)) (first | with_reducible exact Kp47.of HC3.out HW3.out (Below.drew (Below.refl _ _)) | with_reducible exact Kp47.drew HC3.out HW3.out (by assumption) | with_reducible exact Kp47.ad HC3.out HW3.out (by assumption) _ | with_reducible exact Kp47.alloc HC3.out HW3.out (by assumption) _ | with_reducible exact Kp47.after HC3.out HW3.out (by assumption) (by assumption))
          (first | (go_at_call 24; refine (askRow_yes i0 ((m : Int) + 1) o a b c0 d0 _ HR2.out).mono ?_; rintro e u1 ⟨R, rc, rfl, RR, bR⟩))
        all_goals
          have hF := (@Kp47.b v3 (w.heap.size) (g2) (.int .i64 i0) (.slice A n c) (.slice B m d) (.int .i64 t0) (.int .i64 k) (.int .i64 o) (.int .i64 a) (.int .i64 b) (.int .i64 c0) (.int .i64 d0) (.int .i64 y) _ (by assumption))
          rename_i hHx
          clear hHx
          go_wp2
          refine bodyPost_ret (v := .slice (some ⟨u1.heap.size, 0, none⟩) 1 1) (by simp [results, Tryz.results9, go_sem]) rfl ?_
          exact RetMsgs.one (f := i0) (t := 0) (z := [1, i0, ((m : Int) + 1), o, a, b, c0, d0]) HV.out rfl (Nat.le_trans (Nat.le_of_lt hw2) (Nat.le_trans (Nat.le_of_lt HW3.out.lt) bR.size)) (Blk.new _ _ _) ((RR.mono (Nat.le_trans (Nat.le_of_lt hw2) (Nat.le_of_lt HW3.out.lt))).alloc _) (fun a ha => Nat.ne_of_lt (RR.lt a ha)) (bthen HF.out hF)
end Go.Proofs.YtbheflinchabgaaGreatDoor
namespace Go.Proofs.YtbheflinchabgaaGreatDoor
set_option linter.unusedSimpArgs false
set_option linter.unusedVariables false
attribute [local go_sem] n_lt2 n_lt3 n_lt4 n_le2 n_le3
open Go.RowKit
attribute [local go_sem] Ext.cell Ext.frozen
theorem sl_tail {w : World} {b off n k : Nat} {zs : List Int} (h : Sl w 1 (some ⟨b, off, none⟩) n zs) (hk : k ≤ n) : Sl w 1 (some ⟨b, off + k, none⟩) (n - k) (zs.drop k) := by
  refine ⟨by have := h.1; simp; omega, fun hn => ?_⟩
  obtain ⟨b', off', hA, hb, hj⟩ := h.2 (by omega)
  injection hA with hA
  injection hA with h1 h2
  subst h1 h2
  refine ⟨b, off + k, rfl, hb, fun j hjn => ?_⟩
  rw [Nat.add_assoc, hj (k + j) (by omega)]
  simp [List.getD]
def numsB (zs : List Int) : Prop := ∀ j, j < zs.length → 0 ≤ zs.getD j 0 ∧ zs.getD j 0 ≤ 1000000000
set_option maxHeartbeats 1000000 in
theorem rowOk_yes (A : Option Addr) (n cap : Nat) (zs : List Int) (w : World) (hS : Sl w 1 A n zs) (hn : n ≤ 48) (hz : numsB zs) :
    Calls Tryz.prog 99 #[.slice A n cap] w fun e w' => e = .returned (.bool true) ∧ w = w' := by
  have HS := Lib.hid hS
  have HZ := Lib.hid hz
  clear hS hz
  have hn1 : ¬ (48 : Int) < (n : Int) := by omega
  go_enter Tryz.func99, Tryz.ntmps99
  go_wp2
  go_loopw [10] (fun iv wr => ∃ j : Nat, j ≤ n ∧ iv = .int .i64 j ∧ wr = w) (fun iv _ => n - (intOf iv).toNat)
  case atStart => exact ⟨0, Nat.zero_le _, rfl, rfl⟩
  case round =>
    obtain ⟨j, hj, rfl, hwr⟩ := hrel
    subst wr
    by_cases hlt : j < n
    · obtain ⟨b, off, rfl, hb, hc⟩ := HS.out.at_ (by omega)
      have h0 := hc j (by omega)
      clear hc
      have hlt' : (j : Int) < (n : Int) := by omega
      have hl := HS.out.len
      have cb := between_any (zs.getD j 0) 0 1000000000 w
      rw [show inB (zs.getD j 0) 0 1000000000 = true from (inB_iff _ _ _).2 (HZ.out j (by omega))] at cb
      generalize zs.getD j 0 = y at h0 cb
      clear hl
      go_wp2_with fail
      refine cb.mono ?_
      rintro e w' ⟨rfl, rfl⟩
      go_wp2
      exact ⟨⟨j + 1, by omega, by go_num, by first | rfl | trivial⟩, by simp [intOf]; omega⟩
    · have hjn : j = n := by omega
      subst hjn
      go_wp2
      go_ret
      exact ⟨rfl, rfl⟩
set_option maxHeartbeats 1000000 in
theorem kindRow_yes (A : Option Addr) (n cap : Nat) (q : Int) (zs : List Int) (w : World) (hS : Sl w 1 A n (q :: zs)) (hn : n ≤ 48) (hz : numsB (q :: zs)) (hq : 1 ≤ q ∧ q ≤ 9) :
    Calls Tryz.prog 53 #[.slice A n cap] w fun e w' => e = .returned (.int .i64 q) ∧ w = w' := by
  have hl := hS.len
  simp only [List.length_cons] at hl
  have cr := rowOk_yes A n cap (q :: zs) w hS hn hz
  have cb := between_any q 1 9 w
  rw [show inB q 1 9 = true from (inB_iff _ _ _).2 hq] at cb
  obtain ⟨b, off, rfl, hb, hc⟩ := hS.at_ (by omega)
  have h0 := hc 0 (by omega)
  simp only [List.getD_cons_zero, Nat.add_zero] at h0
  have hn1 : ¬ (n : Int) = 0 := by omega
  have hn2 : ((n : Int) == 0) = false := by simpa using hn1
  have hn3 : (0 : Int) < (n : Int) := by omega
  have hn4 : 0 < n := by omega
  clear hl hc hS hz
  go_enter Tryz.func53, Tryz.ntmps53
  go_wp2_with fail
  refine cr.mono ?_
  rintro e w' ⟨rfl, rfl⟩
  go_wp2_with fail
  refine cb.mono ?_
  rintro e w' ⟨rfl, rfl⟩
  go_wp2
  go_ret
  exact ⟨rfl, rfl⟩
set_option maxHeartbeats 1000000 in
theorem equalRow_yes (A B : Option Addr) (n cap cap' : Nat) (zs : List Int) (w : World) (hS : Sl w 1 A n zs) (hT : Sl w 1 B n zs) (hn : n ≤ 48) :
    Calls Tryz.prog 100 #[.slice A n cap, .slice B n cap'] w fun e w' => e = .returned (.bool true) ∧ Below w.heap.size w w' := by
  have HS := Lib.hid hS
  have HT := Lib.hid hT
  clear hS hT
  go_enter Tryz.func100, Tryz.ntmps100
  go_wp2
  go_loopw [13] (fun i wr => ∃ (k : Nat), k ≤ n ∧ i = .int .i64 k ∧ Below w.heap.size w wr) (fun i _ => n - (intOf i).toNat)
  case atStart => exact ⟨0, Nat.zero_le _, rfl, Below.refl _ _⟩
  case round =>
    obtain ⟨k, hk, rfl, hbl⟩ := hrel
    by_cases hlt : k < n
    · obtain ⟨b, off, rfl, hb, hcell⟩ := HS.out.at_ (by omega)
      obtain ⟨b', off', rfl, hb', hcell'⟩ := HT.out.at_ (by omega)
      have h0 := hcell k (by omega)
      have p0 := hcell' k (by omega)
      rw [← hbl.cell (by exact hb)] at h0
      rw [← hbl.cell (by exact hb')] at p0
      clear hcell hcell'
      generalize zs.getD k 0 = x0 at h0 p0
      have hbr : b < wr.heap.size := Nat.lt_of_lt_of_le hb hbl.size
      have hbr' : b' < wr.heap.size := Nat.lt_of_lt_of_le hb' hbl.size
      have hk2 : (k : Int) < (n : Int) := by omega
      go_wp2
      ((refine wp_region_ext (by kernel_rfl) (by kernel_rfl) ?_); (repeat (any_goals (first | go_big_quiet_step (fail) | (refine wpQuiet_step (fun K hK => ?_); go_simp; split <;> (refine hK _ ?_; clear hK K)) | quiet_step (fail)))); (all_goals (refine wpQuiet_nil ?_; rintro _ ⟨z, rfl⟩; have hb' := z.h; generalize z.w = w1 at hb' ⊢; clear z; (first | (have hb2 := bstep hb' hb hb.size; clear hb' hcb hfb hz1 hz2 hz3 hz4 hb; have hb := hb2; clear hb2) | (have hb := hb'; clear hb')); obtain ⟨hcb, hfb, hz1, hz2, hz3, hz4⟩ := bcell hb; (try simp only [World.size_alloc, World.size_setCell, World.size_drew, Nat.lt_add_one_iff, Nat.add_assoc, Nat.reduceAdd] at hz1 hz2 hz3 hz4))))
      go_wp2
      exact ⟨⟨k + 1, by omega, by go_num, bstep hb hbl hbl.size⟩, by simp [intOf]; omega⟩
    · have hkn : k = n := by omega
      subst hkn
      go_wp2
      go_ret
      exact ⟨rfl, hbl⟩
theorem sameRow_yes (A B : Option Addr) (n cap cap' : Nat) (zs : List Int) (w : World) (hS : Sl w 1 A n zs) (hT : Sl w 1 B n zs) (hn : n ≤ 48) :
    Calls Tryz.prog 54 #[.slice A n cap, .slice B n cap'] w fun e w' => e = .returned (.bool true) ∧ Below w.heap.size w w' := by
  have c1 := equalRow_yes A B n cap cap' zs w hS hT hn
  go_enter Tryz.func54, Tryz.ntmps54
  go_wp2_with fail
  refine c1.mono ?_
  rintro e w1 ⟨rfl, b1⟩
  go_wp2
  go_ret
  exact ⟨rfl, b1⟩
theorem rd_drew {W v : World} {g : Nat} (h : ∀ b o, b < g → v.cell? ⟨b, o, none⟩ = W.cell? ⟨b, o, none⟩) : ∀ b o, b < g → v.drew.cell? ⟨b, o, none⟩ = W.cell? ⟨b, o, none⟩ := h
theorem rd_set {W v : World} {g k : Nat} (h : ∀ b o, b < g → v.cell? ⟨b, o, none⟩ = W.cell? ⟨b, o, none⟩) (hz : g ≤ k) (j : Nat) (y : Value) : ∀ b o, b < g → (v.setCell ⟨k, j, none⟩ y).cell? ⟨b, o, none⟩ = W.cell? ⟨b, o, none⟩ := fun b o hb => (World.cell?_setCell_far _ _ _ _ (by show k ≠ b; omega)).trans (h b o hb)
set_option maxRecDepth 100000 in
set_option maxHeartbeats 2000000 in
theorem opOf_any (b off cap : Nat) (k a b_ x y : Int) (w : World) (hS : Sl w 1 (some ⟨b, off, none⟩) 5 [k, a, b_, x, y]) :
    Calls Tryz.prog 27 #[.slice (some ⟨b, off, none⟩) 5 cap] w fun e w' => e = .returned (.agg #[.int .i64 k, .int .i64 a, .int .i64 (b_), .int .i64 x, .int .i64 y]) ∧ Below w.heap.size w w' := by
  have HS := Lib.hid hS
  clear hS
  go_enter Tryz.func27, Tryz.ntmps27
  go_upto_region 1 with fail
  obtain ⟨v, hv⟩ : ∃ v : World, v = w.alloc (.cells #[.int .i64 0, .int .i64 0, .int .i64 0, .int .i64 0, .int .i64 0] 30) := ⟨_, rfl⟩
  rw [← hv]
  have K : Blk v w.heap.size 30 #[.int .i64 0, .int .i64 0, .int .i64 0, .int .i64 0, .int .i64 0] := by rw [hv]; exact Blk.new _ _ _
  have f0 : Below w.heap.size w v := by rw [hv]; (repeat' (first | (with_reducible exact Below.refl _ _) | (with_reducible assumption) | (with_reducible refine Below.alloc ?_ ?_ _) | (with_reducible refine Below.drew ?_) | (with_reducible refine Below.setCell ?_ ?_ _) | (with_reducible refine bstep (by assumption) ?_ ?_) | (with_reducible exact Nat.le_refl _) | omega | (simp [*]; done) | (simp [*]; omega)))
  have S1 := HS.out.below f0
  have hlt : b < w.heap.size := by
    obtain ⟨b', off', hA, hb, hc⟩ := HS.out.at_ (by decide)
    injection hA with hA
    injection hA with h1 h2
    subst h1
    exact hb
  clear hv
  obtain ⟨b', off', hA, hb, hc⟩ := S1.at_ (by decide)
  injection hA with hA
  injection hA with h1 h2
  subst h1 h2
  have h0 := hc 0 (by omega)
  have h1 := hc 1 (by omega)
  have h2 := hc 2 (by omega)
  have h3 := hc 3 (by omega)
  have h4 := hc 4 (by omega)
  simp only [Nat.add_zero, List.getD_cons_zero, List.getD_cons_succ] at h0 h1 h2 h3 h4
  have lk := K.lt
  have kc0 := K.cell 0
  have kz0 := K.frozen 0
  have kc1 := K.cell 1
  have kz1 := K.frozen 1
  have kc2 := K.cell 2
  have kz2 := K.frozen 2
  have kc3 := K.cell 3
  have kz3 := K.frozen 3
  have kc4 := K.cell 4
  have kz4 := K.frozen 4
  have HK := Lib.hid K
  have hbn : ¬ b = w.heap.size := by omega
  have hS0 : ∀ b o, b < w.heap.size → v.cell? ⟨b, o, none⟩ = v.cell? ⟨b, o, none⟩ := fun b o hb => rfl
  clear hc S1 K
  go_region_held_law (fun w' => ∀ b o, b < w.heap.size → w'.cell? ⟨b, o, none⟩ = v.cell? ⟨b, o, none⟩) (repeat' (first | with_reducible assumption | with_reducible exact Nat.le_refl _ | with_reducible exact hS0 | with_reducible refine rd_drew ?_ | with_reducible refine rd_set ?_ ?_ _ _)) (fail)
  all_goals
    go_wp21
    refine bodyPost_ret (v := .agg #[.int .i64 k, .int .i64 a, .int .i64 (b_), .int .i64 x, .int .i64 y]) (by simp [results, Tryz.results27, go_sem, *]) rfl ?_
    exact ⟨rfl, (((((f0.drew).setCell (p := ⟨w.heap.size, 0, none⟩) (Nat.le_refl _) _).setCell (p := ⟨w.heap.size, 1, none⟩) (Nat.le_refl _) _).setCell (p := ⟨w.heap.size, 2, none⟩) (Nat.le_refl _) _).setCell (p := ⟨w.heap.size, 3, none⟩) (Nat.le_refl _) _).setCell (p := ⟨w.heap.size, 4, none⟩) (Nat.le_refl _) _⟩
theorem sd_dr {v w' : World} (h : Below v.drew.heap.size v.drew w') : Below v.heap.size v w' := ⟨h.os, h.tape, h.output, h.size, h.block⟩
set_option maxRecDepth 100000 in
set_option maxHeartbeats 4000000 in
theorem rowAsk1_any (b off cap : Nat) (c s k a b_ x_ y_ : Int) (w : World) (hS : Sl w 1 (some ⟨b, off, none⟩) 7 [c, s, k, a, b_, x_, y_]) (hcap : 7 ≤ cap) (hcm : cap ≤ maxLen) :
    Calls Tryz.prog 26 #[.slice (some ⟨b, off, none⟩) 7 cap] w fun e w' => e = .returned (.agg #[.int .i64 c, .int .i64 s, .int .i64 k, .int .i64 a, .int .i64 (b_), .int .i64 (x_), .int .i64 (y_)]) ∧ Below w.heap.size w w' := by
  have HS := Lib.hid hS
  clear hS
  unfold maxLen at hcm
  go_enter Tryz.func26, Tryz.ntmps26
  go_upto_region 1 with fail
  obtain ⟨v, hv⟩ : ∃ v : World, v = w.alloc (.cells #[.int .i64 0, .int .i64 0, .int .i64 0, .int .i64 0, .int .i64 0, .int .i64 0, .int .i64 0] 56) := ⟨_, rfl⟩
  rw [← hv]
  have K : Blk v w.heap.size 56 #[.int .i64 0, .int .i64 0, .int .i64 0, .int .i64 0, .int .i64 0, .int .i64 0, .int .i64 0] := by rw [hv]; exact Blk.new _ _ _
  have f0 : Below w.heap.size w v := by rw [hv]; (repeat' (first | (with_reducible exact Below.refl _ _) | (with_reducible assumption) | (with_reducible refine Below.alloc ?_ ?_ _) | (with_reducible refine Below.drew ?_) | (with_reducible refine Below.setCell ?_ ?_ _) | (with_reducible refine bstep (by assumption) ?_ ?_) | (with_reducible exact Nat.le_refl _) | omega | (simp [*]; done) | (simp [*]; omega)))
  have S1 := HS.out.below f0
  have hlt : b < w.heap.size := by
    obtain ⟨b', off', hA, hb, hc⟩ := HS.out.at_ (by decide)
    injection hA with hA
    injection hA with h1 h2
    subst h1
    exact hb
  clear hv
  obtain ⟨b', off', hA, hb, hc⟩ := S1.at_ (by decide)
  injection hA with hA
  injection hA with h1 h2
  subst h1 h2
  have h0 := hc 0 (by omega)
  have h1 := hc 1 (by omega)
  simp only [Nat.add_zero, List.getD_cons_zero, List.getD_cons_succ] at h0 h1
  have S2 := Lib.hid (show Sl v 1 (some ⟨b, off + 2, none⟩) 5 [k, a, b_, x_, y_] from sl_tail (k := 2) S1 (by omega))
  have lk := K.lt
  have HK := Lib.hid K
  have hbn : ¬ b = w.heap.size := by omega
  have hS0 : ∀ b o, b < w.heap.size → v.cell? ⟨b, o, none⟩ = v.cell? ⟨b, o, none⟩ := fun b o hb => rfl
  have hsl : ∀ wz : World, (Instr.slice 59 (.slice (some ⟨b, off, none⟩) 7 cap) (some (.int .i64 2)) none none).run Tryz.prog wz = .ok (.slice (some ⟨b, off + 2, none⟩) 5 (cap - 2)) wz := fun wz => by
    have hc2 : ¬ cap = 2 := by omega
    go_simp
  clear hc S1 K hcap hcm
  go_region_held_law (fun w' => ∀ b o, b < w.heap.size → w'.cell? ⟨b, o, none⟩ = v.cell? ⟨b, o, none⟩) (repeat' (first | with_reducible assumption | with_reducible exact Nat.le_refl _ | with_reducible exact hS0 | with_reducible refine rd_drew ?_ | with_reducible refine rd_set ?_ ?_ _ _)) (first | (go_at_call 27; refine (opOf_any b (off + 2) (cap - 2) k a b_ x_ y_ _ (by first | with_reducible exact S2.out | with_reducible exact Sl.drew S2.out)).mono ?_; rintro e v1 ⟨rfl, b1⟩; have E1 : Below v.heap.size v v1 := (by first | with_reducible exact b1 | with_reducible exact sd_dr b1); have hS1 : ∀ b o, b < w.heap.size → v1.cell? ⟨b, o, none⟩ = v.cell? ⟨b, o, none⟩ := fun b o hb => E1.cell (p := ⟨b, o, none⟩) (Nat.lt_trans hb lk); have K1 := HK.out.below E1; have kkb0 := K1.cell 0; have kkf0 := K1.frozen 0; have kkb1 := K1.cell 1; have kkf1 := K1.frozen 1; have kkb2 := K1.cell 2; have kkf2 := K1.frozen 2; have kkb3 := K1.cell 3; have kkf3 := K1.frozen 3; have kkb4 := K1.cell 4; have kkf4 := K1.frozen 4; have kkb5 := K1.cell 5; have kkf5 := K1.frozen 5; have kkb6 := K1.cell 6; have kkf6 := K1.frozen 6; have kkl := K1.lt))
  all_goals
    go_wp21
    refine bodyPost_ret (v := .agg #[.int .i64 c, .int .i64 s, .int .i64 k, .int .i64 a, .int .i64 (b_), .int .i64 (x_), .int .i64 (y_)]) (by simp [results, Tryz.results26, go_sem, *]) rfl ?_
    exact ⟨rfl, ((((((((bthen f0 E1)).setCell (p := ⟨w.heap.size, 0, none⟩) (Nat.le_refl _) _).setCell (p := ⟨w.heap.size, 1, none⟩) (Nat.le_refl _) _).setCell (p := ⟨w.heap.size, 2, none⟩) (Nat.le_refl _) _).setCell (p := ⟨w.heap.size, 3, none⟩) (Nat.le_refl _) _).setCell (p := ⟨w.heap.size, 4, none⟩) (Nat.le_refl _) _).setCell (p := ⟨w.heap.size, 5, none⟩) (Nat.le_refl _) _).setCell (p := ⟨w.heap.size, 6, none⟩) (Nat.le_refl _) _⟩
theorem opB_nums {k a b c d : Int} (h : opB k a b c d = true) : (0 ≤ k ∧ k ≤ 5) ∧ (0 ≤ a ∧ a ≤ 1000) ∧ (0 ≤ b ∧ b ≤ 1000000) ∧ (0 ≤ c ∧ c ≤ 9) ∧ (0 ≤ d ∧ d ≤ 999) := by
  unfold opB at h
  repeat' split at h
  all_goals simp [inB_iff] at h
  all_goals omega
theorem numsAsk {c s k a b x y : Int} (h : askB c s k a b x y = true) : numsB (1 :: [c, s, k, a, b, x, y]) := by
  unfold askB at h
  simp only [Bool.and_eq_true, inB_iff] at h
  have ho := opB_nums h.2.2
  intro j hj
  match j, hj with
  | 0, _ => simp
  | 1, _ => simp; omega
  | 2, _ => simp; omega
  | 3, _ => simp; omega
  | 4, _ => simp; omega
  | 5, _ => simp; omega
  | 6, _ => simp; omega
  | 7, _ => simp; omega
  | j + 8, hj => exact absurd hj (by simp)
set_option maxRecDepth 100000 in
set_option maxHeartbeats 4000000 in
theorem decAsk_yes (b off cap : Nat) (c s k a b_ x_ y_ : Int) (w : World) (hS : Sl w 1 (some ⟨b, off, none⟩) 8 [1, c, s, k, a, b_, x_, y_]) (hcap : 8 ≤ cap) (hcm : cap ≤ maxLen) (h : askB c s k a b_ x_ y_ = true) :
    Calls Tryz.prog 25 #[.slice (some ⟨b, off, none⟩) 8 cap, .int .i64 1, .int .i64 7, .int .i64 7, .func (.func 26) #[] #[]] w fun e w' => e = .returned (.tuple #[.agg #[.int .i64 c, .int .i64 s, .int .i64 k, .int .i64 a, .int .i64 (b_), .int .i64 (x_), .int .i64 (y_)], .bool true]) ∧ Below w.heap.size w w' := by
  have n1 : ∀ w : World, (nilAhead 372 56 (.agg #[.int .i64 c, .int .i64 s, .int .i64 k, .int .i64 a, .int .i64 (b_), .int .i64 (x_), .int .i64 (y_)]) "loop.example/g00851/impl.valid").run Tryz.prog w = .ok (some false) w := fun _ => by kernel_rfl
  have n2 : ∀ w : World, (method 372 56 (.agg #[.int .i64 c, .int .i64 s, .int .i64 k, .int .i64 a, .int .i64 (b_), .int .i64 (x_), .int .i64 (y_)]) "loop.example/g00851/impl.valid").run Tryz.prog w = .ok (151, .agg #[.int .i64 c, .int .i64 s, .int .i64 k, .int .i64 a, .int .i64 (b_), .int .i64 (x_), .int .i64 (y_)]) w := fun _ => by kernel_rfl
  have n3 : ∀ w : World, (nilAhead 372 56 (.agg #[.int .i64 c, .int .i64 s, .int .i64 k, .int .i64 a, .int .i64 (b_), .int .i64 (x_), .int .i64 (y_)]) "loop.example/g00851/impl.fields").run Tryz.prog w = .ok (some false) w := fun _ => by kernel_rfl
  have n4 : ∀ w : World, (method 372 56 (.agg #[.int .i64 c, .int .i64 s, .int .i64 k, .int .i64 a, .int .i64 (b_), .int .i64 (x_), .int .i64 (y_)]) "loop.example/g00851/impl.fields").run Tryz.prog w = .ok (150, .agg #[.int .i64 c, .int .i64 s, .int .i64 k, .int .i64 a, .int .i64 (b_), .int .i64 (x_), .int .i64 (y_)]) w := fun _ => by kernel_rfl
  have HS := Lib.hid hS
  have HV := Lib.hid h
  have hz : numsB (1 :: [c, s, k, a, b_, x_, y_]) := numsAsk h
  have HZ := Lib.hid hz
  clear hS h hz
  unfold maxLen at hcm
  go_enter Tryz.func25, Tryz.ntmps25
  go_wp2_with fail
  refine calls_named ?_
  rintro v0 hv0
  have f0 : Below w.heap.size w v0 := by rw [hv0]; (repeat' (first | (with_reducible exact Below.refl _ _) | (with_reducible assumption) | (with_reducible refine Below.alloc ?_ ?_ _) | (with_reducible refine Below.drew ?_) | (with_reducible refine Below.setCell ?_ ?_ _) | (with_reducible refine bstep (by assumption) ?_ ?_) | (with_reducible exact Nat.le_refl _) | omega | (simp [*]; done) | (simp [*]; omega)))
  have z0 : w.heap.size + 2 ≤ v0.heap.size := by rw [hv0]; simp [size_set]
  have HS_0 := Lib.hid (HS.out.below f0)
  have HS_lt := Lib.hid (fun hn => HS.out.lt hn)
  have Hr_0 : Hid (Blk v0 w.heap.size 56 #[.int .i64 0, .int .i64 0, .int .i64 0, .int .i64 0, .int .i64 0, .int .i64 0, .int .i64 0]) := by rw [hv0]; exact (Blk.new_at _ _ _ _ (by simp)).alloc _
  have Hn_0 : Hid (Blk v0 (w.heap.size + 1) 56 #[.int .i64 0, .int .i64 0, .int .i64 0, .int .i64 0, .int .i64 0, .int .i64 0, .int .i64 0]) := by rw [hv0]; exact Blk.new_at _ _ _ _ (by simp)
  clear hv0
  generalize hg1 : w.heap.size + 1 = g1 at *
  have lg1 : w.heap.size < g1 := by omega
  have lgz : g1 < v0.heap.size := by omega
  have nq1x0 : ¬ g1 = w.heap.size := by omega
  have nq0x1 : ¬ w.heap.size = g1 := by omega
  clear hg1
  have lt_r := Hr_0.out.lt
  obtain ⟨r_r0, r_r1, r_r2, r_r3, r_r4, r_r5, r_r6⟩ := bc7 Hr_0.out
  have lt_n := Hn_0.out.lt
  obtain ⟨r_n0, r_n1, r_n2, r_n3, r_n4, r_n5, r_n6⟩ := bc7 Hn_0.out
  obtain ⟨z_r0, z_r1, z_r2, z_r3, z_r4, z_r5, z_r6⟩ := bf7 Hr_0.out
  refine (kindRow_yes (some ⟨b, off, none⟩) 8 cap 1 [c, s, k, a, b_, x_, y_] v0 HS_0.out (by decide) HZ.out (by decide)).mono ?_
  rintro e v' ⟨rfl, rfl⟩
  go_wp2_with fail
  have T0 := Lib.hid (show Sl v0 1 (some ⟨b, off + 1, none⟩) 7 [c, s, k, a, b_, x_, y_] from sl_tail (k := 1) HS_0.out (by omega))
  refine (rowAsk1_any b (off + 1) (cap - 1) c s k a b_ x_ y_ v0 T0.out (by omega) (by unfold maxLen; omega)).mono ?_
  rintro e v1 ⟨rfl, b1⟩
  have f1 := bthen f0 b1
  have z1 := b1.size
  have HS_1 := Lib.hid (HS_0.out.below b1)
  have Hr_1 := Lib.hid (Hr_0.out.below b1)
  have Hn_1 := Lib.hid (Hn_0.out.below b1)
  clear lt_r r_r0 r_r1 r_r2 r_r3 r_r4 r_r5 r_r6 lt_n r_n0 r_n1 r_n2 r_n3 r_n4 r_n5 r_n6 z_r0 z_r1 z_r2 z_r3 z_r4 z_r5 z_r6
  clear HS_0 Hr_0 Hn_0
  clear T0
  have lt_r := Hr_1.out.lt
  obtain ⟨r_r0, r_r1, r_r2, r_r3, r_r4, r_r5, r_r6⟩ := bc7 Hr_1.out
  have lt_n := Hn_1.out.lt
  obtain ⟨r_n0, r_n1, r_n2, r_n3, r_n4, r_n5, r_n6⟩ := bc7 Hn_1.out
  obtain ⟨z_r0, z_r1, z_r2, z_r3, z_r4, z_r5, z_r6⟩ := bf7 Hr_1.out
  go_upto_region 5 with fail
  obtain ⟨v2, hv2⟩ : ∃ x : World, x = (v1.alloc (.cells #[.int .i64 c, .int .i64 s, .int .i64 k, .int .i64 a, .int .i64 (b_), .int .i64 (x_), .int .i64 (y_)] 56)) := ⟨_, rfl⟩
  rw [← hv2]
  have f2 : Below w.heap.size w v2 := by rw [hv2]; (repeat' (first | (with_reducible exact Below.refl _ _) | (with_reducible assumption) | (with_reducible refine Below.alloc ?_ ?_ _) | (with_reducible refine Below.drew ?_) | (with_reducible refine Below.setCell ?_ ?_ _) | (with_reducible refine bstep (by assumption) ?_ ?_) | (with_reducible exact Nat.le_refl _) | omega | (simp [*]; done) | (simp [*]; omega)))
  have z2 : v1.heap.size + 1 ≤ v2.heap.size := by rw [hv2]; simp [size_set]
  have HS_2 : Hid (Sl v2 1 (some ⟨b, off, none⟩) 8 (1 :: [c, s, k, a, b_, x_, y_])) := by rw [hv2]; exact (HS_1.out).alloc _
  have Hr_2 : Hid (Blk v2 w.heap.size 56 #[.int .i64 0, .int .i64 0, .int .i64 0, .int .i64 0, .int .i64 0, .int .i64 0, .int .i64 0]) := by rw [hv2]; exact (Hr_1.out).alloc _
  have Hn_2 : Hid (Blk v2 g1 56 #[.int .i64 0, .int .i64 0, .int .i64 0, .int .i64 0, .int .i64 0, .int .i64 0, .int .i64 0]) := by rw [hv2]; exact (Hn_1.out).alloc _
  have Hl_2 : Hid (Blk v2 v1.heap.size 56 #[.int .i64 c, .int .i64 s, .int .i64 k, .int .i64 a, .int .i64 (b_), .int .i64 (x_), .int .i64 (y_)]) := by rw [hv2]; exact (Blk.new_at _ _ _ _ (by simp [size_set]))
  clear lt_r r_r0 r_r1 r_r2 r_r3 r_r4 r_r5 r_r6 lt_n r_n0 r_n1 r_n2 r_n3 r_n4 r_n5 r_n6 z_r0 z_r1 z_r2 z_r3 z_r4 z_r5 z_r6
  clear hv2 HS_1 Hr_1 Hn_1
  have lt_r := Hr_2.out.lt
  obtain ⟨r_r0, r_r1, r_r2, r_r3, r_r4, r_r5, r_r6⟩ := bc7 Hr_2.out
  have lt_n := Hn_2.out.lt
  obtain ⟨r_n0, r_n1, r_n2, r_n3, r_n4, r_n5, r_n6⟩ := bc7 Hn_2.out
  have lt_l := Hl_2.out.lt
  obtain ⟨r_l0, r_l1, r_l2, r_l3, r_l4, r_l5, r_l6⟩ := bc7 Hl_2.out
  obtain ⟨z_r0, z_r1, z_r2, z_r3, z_r4, z_r5, z_r6⟩ := bf7 Hr_2.out
  have T1 := Lib.hid (show Sl v2 1 (some ⟨b, off + 1, none⟩) 7 [c, s, k, a, b_, x_, y_] from sl_tail (k := 1) HS_2.out (by omega))
  have hS0 : ∀ b o, b < v2.heap.size → v2.cell? ⟨b, o, none⟩ = v2.cell? ⟨b, o, none⟩ := fun b o hb => rfl
  have cv : ∀ u, Calls Tryz.prog 151 #[.agg #[.int .i64 c, .int .i64 s, .int .i64 k, .int .i64 a, .int .i64 (b_), .int .i64 (x_), .int .i64 (y_)]] u fun e w1 => e = .returned (.bool true) ∧ Below u.heap.size u w1 := fun u => by
    have := askValid_any c s k a b_ x_ y_ u
    rw [HV.out] at this
    exact this
  go_region_held_law (fun w' => ∀ b o, b < v2.heap.size → w'.cell? ⟨b, o, none⟩ = v2.cell? ⟨b, o, none⟩) (repeat' (first | with_reducible assumption | with_reducible exact hS0 | with_reducible refine rd_drew ?_)) (first | (go_at_call 151; refine (cv _).mono ?_; rintro e u1 ⟨rfl, b1_⟩; have E1 : Below v2.heap.size v2 u1 := (by first | with_reducible exact b1_ | with_reducible exact sd_dr b1_); have hSu1 : ∀ b o, b < v2.heap.size → u1.cell? ⟨b, o, none⟩ = v2.cell? ⟨b, o, none⟩ := fun b o hb => E1.cell (p := ⟨b, o, none⟩) hb) | (go_at_call 150; refine (askFields_any c s k a b_ x_ y_ _).mono ?_; rintro e u2 ⟨A2, c2, rfl, R2, b2_⟩; have E2 := bthen E1 b2_; have hSu2 : ∀ b o, b < v2.heap.size → u2.cell? ⟨b, o, none⟩ = v2.cell? ⟨b, o, none⟩ := fun b o hb => E2.cell (p := ⟨b, o, none⟩) hb) | (go_at_call 54; refine (sameRow_yes A2 (some ⟨b, off + 1, none⟩) 7 c2 (cap - 1) [c, s, k, a, b_, x_, y_] _ R2.sl (T1.out.below E2) (by decide)).mono ?_; rintro e u3 ⟨rfl, b3_⟩; have E3 := bthen E2 b3_; have hSu3 : ∀ b o, b < v2.heap.size → u3.cell? ⟨b, o, none⟩ = v2.cell? ⟨b, o, none⟩ := fun b o hb => E3.cell (p := ⟨b, o, none⟩) hb; have Kr := Hr_2.out.below E3; have Kl := Hl_2.out.below E3; have krb0 := Kr.cell 0; have krf0 := Kr.frozen 0; have krb1 := Kr.cell 1; have krf1 := Kr.frozen 1; have krb2 := Kr.cell 2; have krf2 := Kr.frozen 2; have krb3 := Kr.cell 3; have krf3 := Kr.frozen 3; have krb4 := Kr.cell 4; have krf4 := Kr.frozen 4; have krb5 := Kr.cell 5; have krf5 := Kr.frozen 5; have krb6 := Kr.cell 6; have krf6 := Kr.frozen 6; have krl := Kr.lt; have klb0 := Kl.cell 0; have klf0 := Kl.frozen 0; have klb1 := Kl.cell 1; have klf1 := Kl.frozen 1; have klb2 := Kl.cell 2; have klf2 := Kl.frozen 2; have klb3 := Kl.cell 3; have klf3 := Kl.frozen 3; have klb4 := Kl.cell 4; have klf4 := Kl.frozen 4; have klb5 := Kl.cell 5; have klf5 := Kl.frozen 5; have klb6 := Kl.cell 6; have klf6 := Kl.frozen 6; have kll := Kl.lt))
  all_goals
    go_wp21
    refine bodyPost_ret (v := .tuple #[.agg #[.int .i64 c, .int .i64 s, .int .i64 k, .int .i64 a, .int .i64 (b_), .int .i64 (x_), .int .i64 (y_)], .bool true]) (by simp [results, Tryz.results25, go_sem, *]) rfl ?_
    exact ⟨rfl, ((((((((bthen f2 E3)).setCell (p := ⟨w.heap.size, 0, none⟩) (Nat.le_refl _) _).setCell (p := ⟨w.heap.size, 1, none⟩) (Nat.le_refl _) _).setCell (p := ⟨w.heap.size, 2, none⟩) (Nat.le_refl _) _).setCell (p := ⟨w.heap.size, 3, none⟩) (Nat.le_refl _) _).setCell (p := ⟨w.heap.size, 4, none⟩) (Nat.le_refl _) _).setCell (p := ⟨w.heap.size, 5, none⟩) (Nat.le_refl _) _).setCell (p := ⟨w.heap.size, 6, none⟩) (Nat.le_refl _) _⟩
set_option maxHeartbeats 1000000 in
theorem rowAsk_yes (b off cap : Nat) (c s k a b_ x_ y_ : Int) (w : World) (hS : Sl w 1 (some ⟨b, off, none⟩) 8 [1, c, s, k, a, b_, x_, y_]) (hcap : 8 ≤ cap) (hcm : cap ≤ maxLen) (h : askB c s k a b_ x_ y_ = true) :
    Calls Tryz.prog 10 #[.slice (some ⟨b, off, none⟩) 8 cap] w fun e w' => e = .returned (.tuple #[.agg #[.int .i64 c, .int .i64 s, .int .i64 k, .int .i64 a, .int .i64 (b_), .int .i64 (x_), .int .i64 (y_)], .bool true]) ∧ Below w.heap.size w w' := by
  have HS := Lib.hid hS
  have HV := Lib.hid h
  clear hS h
  go_enter Tryz.func10, Tryz.ntmps10
  go_wp2_with fail
  refine calls_named ?_
  rintro v hv
  have f0 : Below w.heap.size w v := by rw [hv]; (repeat' (first | (with_reducible exact Below.refl _ _) | (with_reducible assumption) | (with_reducible refine Below.alloc ?_ ?_ _) | (with_reducible refine Below.drew ?_) | (with_reducible refine Below.setCell ?_ ?_ _) | (with_reducible refine bstep (by assumption) ?_ ?_) | (with_reducible exact Nat.le_refl _) | omega | (simp [*]; done) | (simp [*]; omega)))
  have K : Hid (Blk v w.heap.size 56 #[.int .i64 0, .int .i64 0, .int .i64 0, .int .i64 0, .int .i64 0, .int .i64 0, .int .i64 0]) := by rw [hv]; exact Blk.new _ _ _
  clear hv
  refine (decAsk_yes b off cap c s k a b_ x_ y_ v (HS.out.below f0) hcap hcm HV.out).mono ?_
  rintro e v1 ⟨rfl, b1⟩
  have K1 := K.out.below b1
  have kc0 := K1.cell 0
  have kz0 := K1.frozen 0
  have kc1 := K1.cell 1
  have kz1 := K1.frozen 1
  have kc2 := K1.cell 2
  have kz2 := K1.frozen 2
  have kc3 := K1.cell 3
  have kz3 := K1.frozen 3
  have kc4 := K1.cell 4
  have kz4 := K1.frozen 4
  have kc5 := K1.cell 5
  have kz5 := K1.frozen 5
  have kc6 := K1.cell 6
  have kz6 := K1.frozen 6
  have lk := K1.lt
  go_wp21
  refine bodyPost_ret (v := .tuple #[.agg #[.int .i64 c, .int .i64 s, .int .i64 k, .int .i64 a, .int .i64 (b_), .int .i64 (x_), .int .i64 (y_)], .bool true]) (by simp [results, Tryz.results10, go_sem, *]) rfl ?_
  exact ⟨rfl, ((((((((bthen f0 b1)).setCell (p := ⟨w.heap.size, 0, none⟩) (Nat.le_refl _) _).setCell (p := ⟨w.heap.size, 1, none⟩) (Nat.le_refl _) _).setCell (p := ⟨w.heap.size, 2, none⟩) (Nat.le_refl _) _).setCell (p := ⟨w.heap.size, 3, none⟩) (Nat.le_refl _) _).setCell (p := ⟨w.heap.size, 4, none⟩) (Nat.le_refl _) _).setCell (p := ⟨w.heap.size, 5, none⟩) (Nat.le_refl _) _).setCell (p := ⟨w.heap.size, 6, none⟩) (Nat.le_refl _) _⟩
end Go.Proofs.YtbheflinchabgaaGreatDoor
namespace Go.Proofs.YtbheflinchabgaaGreatDoor
set_option linter.unusedSimpArgs false
set_option linter.unusedVariables false
attribute [local go_sem] n_lt2 n_lt3 n_lt4 n_le2 n_le3
open Go.RowKit
/-- The slice value '.slice A n _' of elements of s cells reads as the values vs, one behind the other. -/
def SlV (w : World) (s : Nat) (A : Option Addr) (n : Nat) (vs : List Value) : Prop :=
  vs.length = n * s ∧ (0 < n → ∃ b off, A = some ⟨b, off, none⟩ ∧ b < w.heap.size ∧ ∀ j, j < n * s → w.cell? ⟨b, off + j, none⟩ = vs[j]?)
theorem SlV.len {w : World} {s : Nat} {A : Option Addr} {n : Nat} {vs : List Value} (h : SlV w s A n vs) : vs.length = n * s := h.1
theorem SlV.nil (w : World) (s : Nat) (A : Option Addr) : SlV w s A 0 [] := ⟨by simp, fun h => absurd h (by omega)⟩
theorem SlV.below {w w' : World} {s : Nat} {A : Option Addr} {n : Nat} {vs : List Value} (h : SlV w s A n vs) (hb : Below w.heap.size w w') : SlV w' s A n vs :=
  ⟨h.1, fun hn => by
    obtain ⟨b, off, rfl, hbl, hj⟩ := h.2 hn
    exact ⟨b, off, rfl, Nat.lt_of_lt_of_le hbl hb.size, fun j hjn => (hb.cell hbl).trans (hj j hjn)⟩⟩
theorem SlV.drew {w : World} {s : Nat} {A : Option Addr} {n : Nat} {vs : List Value} (h : SlV w s A n vs) : SlV w.drew s A n vs := h
theorem SlV.alloc {w : World} {s : Nat} {A : Option Addr} {n : Nat} {vs : List Value} (h : SlV w s A n vs) (o : Obj) : SlV (w.alloc o) s A n vs := h.below ((Below.refl _ _).alloc (Nat.le_refl _) o)
theorem SlV.at_ {w : World} {s : Nat} {A : Option Addr} {n : Nat} {vs : List Value} (h : SlV w s A n vs) (hn : 0 < n) :
    ∃ b off, A = some ⟨b, off, none⟩ ∧ b < w.heap.size ∧ ∀ j, j < n * s → w.cell? ⟨b, off + j, none⟩ = vs[j]? := h.2 hn
/-- Numbers are values. -/
theorem Sl.toV {w : World} {s : Nat} {A : Option Addr} {n : Nat} {zs : List Int} (h : Sl w s A n zs) : SlV w s A n (ints zs) :=
  ⟨by rw [ints_length]; exact h.1, fun hn => by
    obtain ⟨b, off, hA, hb, hj⟩ := h.2 hn
    exact ⟨b, off, hA, hb, fun j hjn => (hj j hjn).trans (ints_get zs j (by rw [h.1]; exact hjn)).symm⟩⟩
/-- A row of the call's own, of any values of one cell each. -/
def RowV (w : World) (lo : Nat) (e : TypeId) (s : Nat) (A : Option Addr) (n cap : Nat) (vs : List Value) : Prop := w.ownsRow lo e s (.slice A n cap) n vs
theorem RowV.len {w : World} {lo : Nat} {e : TypeId} {s : Nat} {A : Option Addr} {n cap : Nat} {vs : List Value} (h : RowV w lo e s A n cap vs) : vs.length = n * s := h.1
theorem RowV.lt {w : World} {lo : Nat} {e : TypeId} {s : Nat} {A : Option Addr} {n cap : Nat} {vs : List Value} (h : RowV w lo e s A n cap vs) : LtB A w.heap.size := fun a ha => by
  subst ha
  exact (World.ownsRow.lt h a.block rfl).2
theorem RowV.ge {w : World} {lo : Nat} {e : TypeId} {s : Nat} {A : Option Addr} {n cap : Nat} {vs : List Value} (h : RowV w lo e s A n cap vs) : ∀ a, A = some a → lo ≤ a.block := fun a ha => by
  subst ha
  exact (World.ownsRow.lt h a.block rfl).1
theorem RowV.sl {w : World} {lo : Nat} {e : TypeId} {s : Nat} {A : Option Addr} {n cap : Nat} {vs : List Value} (h : RowV w lo e s A n cap vs) : SlV w s A n vs := by
  refine ⟨h.len, fun hn => ?_⟩
  have hlt := h.lt
  rcases h.2 with ⟨_, h0⟩ | ⟨g, c, cur, hv, _, hg, _, _, hcs, ht⟩
  · omega
  · obtain ⟨rfl, rfl⟩ : A = some ⟨g, 0, none⟩ ∧ cap = c := by
      injection hv with h1 _ h3
      exact ⟨h1, h3⟩
    refine ⟨g, 0, rfl, hlt _ rfl, fun j hj => ?_⟩
    have hc := World.ownsRow.cellAt h j hj
    rw [Nat.zero_add, hc]
theorem RowV.keep {w w' : World} {lo : Nat} {e : TypeId} {s : Nat} {A : Option Addr} {n cap : Nat} {vs : List Value} (h : RowV w lo e s A n cap vs) (hk : ∀ a, A = some a → w'.heap[a.block]? = w.heap[a.block]?) : RowV w' lo e s A n cap vs := by
  refine ⟨h.1, ?_⟩
  rcases h.2 with hn | ⟨g, c, cur, hv, hb, hg, rest⟩
  · exact .inl hn
  · refine .inr ⟨g, c, cur, hv, hb, ?_, rest⟩
    have hA : A = some ⟨g, 0, none⟩ := by injection hv
    rw [hk _ hA]
    exact hg
theorem RowV.below {w w' : World} {lo : Nat} {e : TypeId} {s : Nat} {A : Option Addr} {n cap : Nat} {vs : List Value} (h : RowV w lo e s A n cap vs) (hb : Below w.heap.size w w') : RowV w' lo e s A n cap vs :=
  h.keep fun a ha => hb.block _ (h.lt a ha)
theorem RowV.alloc {w : World} {lo : Nat} {e : TypeId} {s : Nat} {A : Option Addr} {n cap : Nat} {vs : List Value} (h : RowV w lo e s A n cap vs) (o : Obj) : RowV (w.alloc o) lo e s A n cap vs := h.below ((Below.refl _ _).alloc (Nat.le_refl _) o)
theorem RowV.drew {w : World} {lo : Nat} {e : TypeId} {s : Nat} {A : Option Addr} {n cap : Nat} {vs : List Value} (h : RowV w lo e s A n cap vs) : RowV w.drew lo e s A n cap vs := h
theorem RowV.mono {w : World} {lo lo' : Nat} {e : TypeId} {s : Nat} {A : Option Addr} {n cap : Nat} {vs : List Value} (h : RowV w lo e s A n cap vs) (hl : lo' ≤ lo) : RowV w lo' e s A n cap vs := by
  refine ⟨h.1, ?_⟩
  rcases h.2 with hn | ⟨g, c, cur, hv, hb, rest⟩
  · exact .inl hn
  · exact .inr ⟨g, c, cur, hv, Nat.le_trans hl hb, rest⟩
theorem RowV.nil (w : World) (lo : Nat) (e : TypeId) (s : Nat) : RowV w lo e s none 0 0 [] := World.ownsRow_nil w lo e s
theorem RowV.nil_of {w : World} {lo : Nat} {e : TypeId} {s : Nat} {A : Option Addr} {n cap : Nat} {vs : List Value} (h : RowV w lo e s A n cap vs) : A = none → n = 0 ∧ cap = 0 := fun hA => by
  rcases h.2 with ⟨hv, h0⟩ | ⟨g, c, cur, hv, _⟩
  · injection hv with _ h1 h2
    exact ⟨h1, h2⟩
  · injection hv with h1
    rw [hA] at h1
    cases h1
theorem RowV.cap_le {w : World} {lo : Nat} {e : TypeId} {s : Nat} {A : Option Addr} {n cap : Nat} {vs : List Value} (h : RowV w lo e s A n cap vs) : n ≤ cap ∧ cap ≤ maxLen := by
  rcases h.2 with ⟨hv, rfl⟩ | ⟨g, c, cur, hv, _, _, h1, h2, _⟩
  · injection hv with _ _ hc
    subst hc
    exact ⟨Nat.le_refl _, by simp⟩
  · injection hv with _ _ hc
    subst hc
    exact ⟨h1, h2⟩
theorem RowV.wrote {w w' : World} {lo : Nat} {e : TypeId} {s : Nat} {A B : Option Addr} {n cap : Nat} {vs : List Value} (h : RowV w lo e s A n cap vs) (hw : Wrote w w' B) (hne : ∀ a b, A = some a → B = some b → a.block ≠ b.block) : RowV w' lo e s A n cap vs :=
  h.keep fun a ha => World.grownBy.block hw _ (h.lt a ha) (by
    cases B with
    | none => simp
    | some b => simp only [Option.map_some, ne_eq, Option.some.injEq]; exact hne a b ha rfl)
theorem Row.toV {w : World} {lo : Nat} {e : TypeId} {s : Nat} {A : Option Addr} {n cap : Nat} {zs : List Int} (h : Row w lo e s A n cap zs) : RowV w lo e s A n cap (ints zs) := h
/-- append onto a row of the call's own, of any values. -/
theorem wpList_append_rowV {P : Program} {ops : Array Oper} {rest : List Oper} {o : Oper} {a : Act} {w : World} {Q : Exit → Act → World → Prop} (hgd : o.guard = none) (s x : Operand) (t : TypeId)
    (ho : o.op = .call { callee := .builtin .append, args := #[s, x], argTypes := #[t, t] })
    (e : TypeId) (z : Value) (size bytes : Nat) (ht : P.underlying t = some (.slice e)) (hinfo : (P.info? e).map (fun i => (i.zero, i.size, i.bytes)) = some (some z, size, bytes)) (hzs : z.cells.size = size) (hsz : 0 < size)
    (lo : Nat) (A : Option Addr) (n cap : Nat) (xs : List Value) (hs : a.eval s = .slice A n cap) (hR : RowV w lo e size A n cap xs)
    (ad : Addr) (m c : Nat) (news : List Value) (hx : a.eval x = .slice (some ad) m c) (hl : news.length = m * size) (hnews : ∀ j u, news[j]? = some u → w.cell? (ad.add j) = some u) (hone : ∀ u ∈ news, u.oneCell' = true)
    (h63 : n + m ≤ maxLen) (hbytes : (n + m) * bytes ≤ 140737488355328) (hlo : lo ≤ w.heap.size)
    (h : ∀ A' cap' w', RowV w' lo e size A' (n + m) cap' (xs ++ news) → Below lo w w' → Wrote w w' A → (∀ a', A' = some a' → (∃ a, A = some a ∧ a.block = a'.block) ∨ a'.block = w.heap.size) → wpList P ops Q rest (a.put o.dst (.slice A' (n + m) cap')) w') :
    wpList P ops Q (o :: rest) a w := by
  obtain ⟨i, hi, hiz, his, hib⟩ : ∃ i, P.info? e = some i ∧ i.zero = some z ∧ i.size = size ∧ i.bytes = bytes := by
    cases hq : P.info? e with
    | none => rw [hq] at hinfo; simp at hinfo
    | some i =>
      rw [hq] at hinfo
      simp only [Option.map_some, Option.some.injEq, Prod.mk.injEq] at hinfo
      exact ⟨i, rfl, hinfo.1, hinfo.2.1, hinfo.2.2⟩
  refine wpList_append_own_at _ hgd s x t ho lo e i z size bytes ht hi hiz his hib hzs hsz _ n xs hs hR ad m c news hx hl hnews hone h63 hbytes hlo ?_
  intro v' w' hown hg _ hloc
  have hw : Wrote w w' A := by cases A <;> exact hg
  have hb : Below lo w w' := (Below.refl lo w).grown hg hlo (fun k hk => by
    cases A with
    | none => simp [Value.ownBlock] at hk
    | some a0 =>
      simp only [Value.ownBlock, Option.some.injEq] at hk
      subst hk
      exact RowV.ge hR a0 rfl)
  rcases hown.2 with ⟨rfl, h0⟩ | ⟨g, c', cur, rfl, _⟩
  · have hn0 : n + m = 0 := h0
    rw [hn0] at h hown
    exact h none 0 w' hown hb hw (by simp)
  · refine h _ _ w' hown hb hw (fun a' ha' => ?_)
    obtain rfl := Option.some.inj ha'
    rcases hloc with h1 | h1
    · cases A with
      | none => simp [Value.ownBlock] at h1
      | some a0 => exact .inl ⟨a0, rfl, by simpa [Value.ownBlock] using h1.symm⟩
    · exact .inr (by simpa [Value.ownBlock] using h1)
/-- A slice value that reads as the numbers zs. -/
def Rw (w : World) (v : Value) (zs : List Int) : Prop := ∃ (A : Option Addr) (c : Nat), v = .slice A zs.length c ∧ Sl w 1 A zs.length zs ∧ zs.length ≤ c ∧ c ≤ maxLen ∧ (A = none → zs.length = 0 ∧ c = 0) ∧ LtB A w.heap.size
theorem Rw.below {w w' : World} {v : Value} {zs : List Int} (h : Rw w v zs) (hb : Below w.heap.size w w') : Rw w' v zs := by
  obtain ⟨A, c, hv, hS, h1, h2, h3, h4⟩ := h
  exact ⟨A, c, hv, hS.below hb, h1, h2, h3, h4.mono hb.size⟩
theorem Rw.of_row {w : World} {lo : Nat} {E : TypeId} {A : Option Addr} {n c : Nat} {zs : List Int} (h : Row w lo E 1 A n c zs) : Rw w (.slice A n c) zs := by
  have hl : zs.length = n := by have := h.len; omega
  subst hl
  exact ⟨A, c, rfl, h.sl, h.cap_le.1, h.cap_le.2, (h.toV).nil_of, h.lt⟩
theorem Rw.nil (w : World) : Rw w (.slice none 0 0) [] := ⟨none, 0, rfl, Sl.nil _ _ _, Nat.le_refl _, by simp, fun _ => ⟨rfl, rfl⟩, fun a ha => by cases ha⟩
theorem Rw.one {w : World} {v : Value} {zs : List Int} (h : Rw w v zs) : v.oneCell' = true := by
  obtain ⟨A, c, rfl, _⟩ := h
  rfl
/-- The values vs are slices that read as the rows. -/
def Rws (w : World) (vs : List Value) (rows : List (List Int)) : Prop := vs.length = rows.length ∧ ∀ j, j < rows.length → ∃ v, vs[j]? = some v ∧ Rw w v (rows.getD j [])
theorem Rws.below {w w' : World} {vs : List Value} {rows : List (List Int)} (h : Rws w vs rows) (hb : Below w.heap.size w w') : Rws w' vs rows :=
  ⟨h.1, fun j hj => by
    obtain ⟨v, hv, hR⟩ := h.2 j hj
    exact ⟨v, hv, hR.below hb⟩⟩
theorem Rws.nil (w : World) : Rws w [] [] := ⟨rfl, fun j hj => absurd hj (by simp)⟩
theorem Rws.snoc {w : World} {vs : List Value} {rows : List (List Int)} {v : Value} {zs : List Int} (h : Rws w vs rows) (hv : Rw w v zs) : Rws w (vs ++ [v]) (rows ++ [zs]) := by
  refine ⟨by simp [h.1], fun j hj => ?_⟩
  rw [List.length_append, List.length_singleton] at hj
  by_cases hjl : j < rows.length
  · obtain ⟨u, hu, hR⟩ := h.2 j hjl
    refine ⟨u, by rw [List.getElem?_append_left (by rw [h.1]; exact hjl)]; exact hu, ?_⟩
    have e : (rows ++ [zs]).getD j [] = rows.getD j [] := by simp [List.getD, List.getElem?_append_left hjl]
    rw [e]
    exact hR
  · have hj2 : j = rows.length := by omega
    subst hj2
    refine ⟨v, by rw [← h.1]; simp, ?_⟩
    have e : (rows ++ [zs]).getD rows.length [] = zs := by simp [List.getD]
    rw [e]
    exact hv
theorem Rws.one {w : World} {vs : List Value} {rows : List (List Int)} (h : Rws w vs rows) : ∀ u ∈ vs, u.oneCell' = true := fun u hu => by
  obtain ⟨j, hj, rfl⟩ := List.getElem_of_mem hu
  obtain ⟨v, hv, hR⟩ := h.2 j (by rw [← h.1]; exact hj)
  rw [List.getElem?_eq_getElem hj] at hv
  obtain rfl := Option.some.inj hv
  exact hR.one
/-- A slice of rows. -/
def SlR (w : World) (A : Option Addr) (n : Nat) (rows : List (List Int)) : Prop := ∃ vs, SlV w 1 A n vs ∧ Rws w vs rows
theorem SlR.below {w w' : World} {A : Option Addr} {n : Nat} {rows : List (List Int)} (h : SlR w A n rows) (hb : Below w.heap.size w w') : SlR w' A n rows := by
  obtain ⟨vs, h1, h2⟩ := h
  exact ⟨vs, h1.below hb, h2.below hb⟩
theorem SlR.len {w : World} {A : Option Addr} {n : Nat} {rows : List (List Int)} (h : SlR w A n rows) : rows.length = n := by
  obtain ⟨vs, h1, h2⟩ := h
  have := h1.len
  have := h2.1
  omega
theorem SlR.at_ {w : World} {A : Option Addr} {n : Nat} {rows : List (List Int)} (h : SlR w A n rows) {j : Nat} (hj : j < n) : ∃ b off v, A = some ⟨b, off, none⟩ ∧ b < w.heap.size ∧ w.cell? ⟨b, off + j, none⟩ = some v ∧ Rw w v (rows.getD j []) := by
  obtain ⟨vs, h1, h2⟩ := h
  obtain ⟨b, off, hA, hb, hc⟩ := h1.at_ (by omega)
  obtain ⟨v, hv, hR⟩ := h2.2 j (by have := h1.len; have := h2.1; omega)
  exact ⟨b, off, v, hA, hb, (hc j (by omega)).trans hv, hR⟩
end Go.Proofs.YtbheflinchabgaaGreatDoor
namespace Go.Proofs.YtbheflinchabgaaGreatDoor
set_option linter.unusedSimpArgs false
set_option linter.unusedVariables false
attribute [local go_sem] n_lt2 n_lt3 n_lt4 n_le2 n_le3
open Go.RowKit
attribute [local go_sem] Ext.cell Ext.frozen






end Go.Proofs.YtbheflinchabgaaGreatDoor
namespace Go.Proofs.YtbheflinchabgaaGreatDoor
set_option linter.unusedSimpArgs false
set_option linter.unusedVariables false
attribute [local go_sem] n_lt2 n_lt3 n_lt4 n_le2 n_le3
open Go.RowKit

end Go.Proofs.YtbheflinchabgaaGreatDoor
namespace Go.Proofs.YtbheflinchabgaaGreatDoor
set_option linter.unusedSimpArgs false
set_option linter.unusedVariables false
attribute [local go_sem] n_lt2 n_lt3 n_lt4 n_le2 n_le3
open Go.RowKit

end Go.Proofs.YtbheflinchabgaaGreatDoor
namespace Go.Proofs.YtbheflinchabgaaGreatDoor
set_option linter.unusedSimpArgs false
set_option linter.unusedVariables false
attribute [local go_sem] n_lt2 n_lt3 n_lt4 n_le2 n_le3
open Go.RowKit
attribute [local go_sem] Ext.cell Ext.frozen

end Go.Proofs.YtbheflinchabgaaGreatDoor
namespace Go.Proofs.YtbheflinchabgaaGreatDoor
set_option linter.unusedSimpArgs false
set_option linter.unusedVariables false
attribute [local go_sem] n_lt2 n_lt3 n_lt4 n_le2 n_le3
open Go.RowKit

end Go.Proofs.YtbheflinchabgaaGreatDoor
namespace Go.Proofs.YtbheflinchabgaaGreatDoor
set_option linter.unusedSimpArgs false
set_option linter.unusedVariables false
attribute [local go_sem] n_lt2 n_lt3 n_lt4 n_le2 n_le3
open Go.RowKit

structure Jb where
  i : Int
  d : Int
  k : Int
  v : Int
  f : Int
instance : Inhabited Jb := ⟨⟨0, 0, 0, 0, 0⟩⟩
attribute [local go_sem] Ext.cell Ext.frozen

end Go.Proofs.YtbheflinchabgaaGreatDoor
namespace Go.Proofs.YtbheflinchabgaaGreatDoor
set_option linter.unusedSimpArgs false
set_option linter.unusedVariables false
attribute [local go_sem] n_lt2 n_lt3 n_lt4 n_le2 n_le3
open Go.RowKit Go.Maps Go.WideShapes

theorem ownsMap_below {P : Program} {k : TypeId} {R : Value → Option (DataW Unit × List MemPlace)} {w w' : World} {b n : Nat} {D : DataW Unit} (h : w.ownsMap P k R b n D) (hb : Below w.heap.size w w') : w'.ownsMap P k R b n D := by
  have hlt := h.lt
  obtain ⟨es, clock, hbk, F, hs, hD⟩ := h
  exact ⟨es, clock, (hb.block b hlt).trans hbk, F, hs, hD⟩
theorem plainElem_bool_inv {P : Program} {e : TypeId} (he : P.underlying e = some .bool) {v : Value} {z : DataW Unit × List MemPlace} (h : plainElem P e v = some z) : ∃ u, v = .bool u ∧ z = (.lit (.bool u), []) := by
  unfold plainElem at h
  rw [he] at h
  cases v <;> simp at h
  exact ⟨_, rfl, h.symm⟩

/-- Block b is a map from int64 to bool; what it holds at x is 'u x'. -/
def Marked (P : Program) (K E : TypeId) (w : World) (b n : Nat) (u : Int → Bool) : Prop :=
  ∃ D : DataW Unit, w.ownsMap P K (plainElem P E) b n D ∧ ∀ x, D.atKey (.int .i64 x) (.lit (.bool false)) = .lit (.bool (u x))
theorem Marked.made (w : World) (P : Program) (K E : TypeId) : Marked P K E (w.alloc (.map #[] 0)) w.heap.size 0 (fun _ => false) :=
  ⟨_, World.ownsMap_made w P K _, fun _ => rfl⟩
theorem Marked.lt {P : Program} {K E : TypeId} {w : World} {b n : Nat} {u : Int → Bool} (h : Marked P K E w b n u) : b < w.heap.size := by
  obtain ⟨D, hD, _⟩ := h
  exact hD.lt
theorem Marked.below {P : Program} {K E : TypeId} {w w' : World} {b n : Nat} {u : Int → Bool} (h : Marked P K E w b n u) (hb : Below w.heap.size w w') : Marked P K E w' b n u := by
  obtain ⟨D, hD, ha⟩ := h
  exact ⟨D, ownsMap_below hD hb, ha⟩
theorem wf_small {x : Int} (hx : 0 ≤ x ∧ x ≤ 2000) : (Lit.int .i64 x).wf = true := by
  simp only [Lit.wf, Bool.and_eq_true, decide_eq_true_eq]
  exact ⟨Int.le_trans (show IntKind.min .i64 ≤ 0 by decide) hx.1, Int.le_trans hx.2 (show (2000 : Int) ≤ IntKind.max .i64 by decide)⟩
theorem Marked.look {P : Program} {K E t : TypeId} {w : World} {b n : Nat} {u : Int → Bool} (h : Marked P K E w b n u) (hK : P.underlying K = some (.int .i64)) (hE : P.underlying E = some .bool) (ht : P.underlying t = some (.map K E))
    (hz : (zeroValue E).run P w = .ok (.bool false) w) {x : Int} (hx : 0 ≤ x ∧ x ≤ 2000) : (Instr.lookup t (.map (some b)) (.int .i64 x) false).run P w = .ok (.bool (u x)) w := by
  obtain ⟨D, hD, ha⟩ := h
  obtain ⟨v, ps, hrun, hv⟩ := hD.lookup (int_keyed hK) ht hz (plainElem_bool hE false) (keyOf_int_mk hK (wf_small hx))
  obtain ⟨c, rfl, hc⟩ := plainElem_bool_inv hE hv
  rw [ha x] at hc
  simp only [Prod.mk.injEq, DataW.lit.injEq, Lit.bool.injEq] at hc
  rw [hrun, hc.1]
theorem wpList_mark {P : Program} {w : World} {ops : Array Oper} {rest : List Oper} {o : Oper} {a : Act} {Q : Exit → Act → World → Prop} (hg : o.guard = none) (m x v : Operand) (t : TypeId) (hop : o.op = Op.mapUpdate t m x v)
    (K E : TypeId) (hK : P.underlying K = some (.int .i64)) (hE : P.underlying E = some .bool) (ht : P.underlying t = some (.map K E)) (b n : Nat) (u : Int → Bool)
    (hm : a.eval m = .map (some b)) (hown : Marked P K E w b n u) (hn : n < maxLen) (y : Int) (hy : 0 ≤ y ∧ y ≤ 2000) (hx : a.eval x = .int .i64 y) (hv : a.eval v = .bool true)
    (h : ∀ w', Marked P K E w' b (n + 1) (fun z => u z || decide (y = z)) → w.grownBy w' (some b) → wpList P ops Q rest (a.put o.dst undef) w') :
    wpList P ops Q (o :: rest) a w := by
  obtain ⟨D, hD, ha⟩ := hown
  refine wpList_mapUpdate_own _ hg m x v t hop K E (int_keyed hK) ht (plainElem P E) b n D hm hD hn (.int .i64 y) (.bool true) (.int .i64 y) hx hv (keyOf_int_mk hK (wf_small hy)) (.lit (.bool true)) [] (plainElem_bool hE true) ?_
  intro w' hD' hg'
  refine h w' ⟨_, hD', fun z => ?_⟩ hg'
  by_cases hz : y = z
  · subst hz
    rw [atKey_put_same hD.isMap (by trivial)]
    simp
  · rw [atKey_put_other (by intro h'; injection h' with _ h2; exact hz h2.symm), ha z]
    simp [hz]
end Go.Proofs.YtbheflinchabgaaGreatDoor
namespace Go.Proofs.YtbheflinchabgaaGreatDoor
set_option linter.unusedSimpArgs false
set_option linter.unusedVariables false
attribute [local go_sem] n_lt2 n_lt3 n_lt4 n_le2 n_le3
open Go.RowKit
attribute [local go_sem] Ext.cell Ext.frozen

end Go.Proofs.YtbheflinchabgaaGreatDoor
namespace Go.Proofs.YtbheflinchabgaaGreatDoor
set_option linter.unusedSimpArgs false
set_option linter.unusedVariables false
attribute [local go_sem] n_lt2 n_lt3 n_lt4 n_le2 n_le3
open Go.RowKit
attribute [local go_sem] Ext.cell Ext.frozen
end Go.Proofs.YtbheflinchabgaaGreatDoor
namespace Go.Proofs.YtbheflinchabgaaGreatDoor
set_option linter.unusedSimpArgs false
set_option linter.unusedVariables false
attribute [local go_sem] n_lt2 n_lt3 n_lt4 n_le2 n_le3
open Go.RowKit
def entryB (ex et ec es ek ea eb eg eh : Int) : Bool := inB ex 1 2000 && (inB et 0 1000000 && (inB ec 2 5 && (inB es 1 2000 && opB ek ea eb eg eh)))
attribute [local go_sem] Ext.cell Ext.frozen
set_option maxRecDepth 100000 in
set_option maxHeartbeats 2000000 in
theorem entryOk_any (ex et ec es ek ea eb eg eh : Int) (w : World) :
    Calls Tryz.prog 87 #[.agg #[.int .i64 ex, .int .i64 et, .int .i64 ec, .int .i64 es, .int .i64 ek, .int .i64 ea, .int .i64 eb, .int .i64 eg, .int .i64 eh]] w fun e' w' => e' = .returned (.bool (entryB ex et ec es ek ea eb eg eh)) ∧ Below w.heap.size w w' := by
  go_enter Tryz.func87, Tryz.ntmps87
  go_wp2_with fail
  refine calls_named ?_
  rintro v0 hv0
  have f0 : Below w.heap.size w v0 := by rw [hv0]; (repeat' (first | (with_reducible exact Below.refl _ _) | (with_reducible assumption) | (with_reducible refine Below.alloc ?_ ?_ _) | (with_reducible refine Below.drew ?_) | (with_reducible refine Below.setCell ?_ ?_ _) | (with_reducible refine bstep (by assumption) ?_ ?_) | (with_reducible exact Nat.le_refl _) | omega | (simp [*]; done) | (simp [*]; omega)))
  have z0 : w.heap.size + 1 ≤ v0.heap.size := by rw [hv0]; simp [size_set]
  have Ha_0 : Hid (Blk v0 w.heap.size 76 #[.int .i64 ex, .int .i64 et, .int .i64 ec, .int .i64 es, .int .i64 ek, .int .i64 ea, .int .i64 eb, .int .i64 eg, .int .i64 eh]) := by rw [hv0]; exact Blk.new_at _ _ _ _ (by simp)
  clear hv0
  have lt_a := Ha_0.out.lt
  obtain ⟨r_a0, r_a1, r_a2, r_a3, r_a4, r_a5, r_a6, r_a7, r_a8⟩ := bc9 Ha_0.out
  have cc := indexOk_any ex v0
  cases q1 : (inB ex 1 2000) with
  | false =>
    rw [q1] at cc
    have Hq1 := Lib.hid q1
    clear q1
    refine (cc).mono ?_
    rintro e v' ⟨rfl, rfl⟩
    have hv : entryB ex et ec es ek ea eb eg eh = false := by unfold entryB; rw [Hq1.out]; simp
    have HV := Lib.hid hv
    clear hv
    go_wp21
    go_ret
    exact ⟨ret_bool HV.out.symm, f0⟩
  | true =>
    rw [q1] at cc
    have Hq1 := Lib.hid q1
    clear q1
    refine (cc).mono ?_
    rintro e v' ⟨rfl, rfl⟩
    clear cc
    have cc := timeOk_any et v0
    cases q2 : (inB et 0 1000000) with
    | false =>
      rw [q2] at cc
      have Hq2 := Lib.hid q2
      clear q2
      go_wp2_with fail
      refine (cc).mono ?_
      rintro e v' ⟨rfl, rfl⟩
      have hv : entryB ex et ec es ek ea eb eg eh = false := by unfold entryB; rw [Hq1.out, Hq2.out]; simp
      have HV := Lib.hid hv
      clear hv
      go_wp21
      go_ret
      exact ⟨ret_bool HV.out.symm, f0⟩
    | true =>
      rw [q2] at cc
      have Hq2 := Lib.hid q2
      clear q2
      go_wp2_with fail
      refine (cc).mono ?_
      rintro e v' ⟨rfl, rfl⟩
      clear cc
      have cc := askerOk_any ec v0
      cases q3 : (inB ec 2 5) with
      | false =>
        rw [q3] at cc
        have Hq3 := Lib.hid q3
        clear q3
        go_wp2_with fail
        refine (cc).mono ?_
        rintro e v' ⟨rfl, rfl⟩
        have hv : entryB ex et ec es ek ea eb eg eh = false := by unfold entryB; rw [Hq1.out, Hq2.out, Hq3.out]; simp
        have HV := Lib.hid hv
        clear hv
        go_wp21
        go_ret
        exact ⟨ret_bool HV.out.symm, f0⟩
      | true =>
        rw [q3] at cc
        have Hq3 := Lib.hid q3
        clear q3
        go_wp2_with fail
        refine (cc).mono ?_
        rintro e v' ⟨rfl, rfl⟩
        clear cc
        have cc := seqOk_any es v0
        cases q4 : (inB es 1 2000) with
        | false =>
          rw [q4] at cc
          have Hq4 := Lib.hid q4
          clear q4
          go_wp2_with fail
          refine (cc).mono ?_
          rintro e v' ⟨rfl, rfl⟩
          have hv : entryB ex et ec es ek ea eb eg eh = false := by unfold entryB; rw [Hq1.out, Hq2.out, Hq3.out, Hq4.out]; simp
          have HV := Lib.hid hv
          clear hv
          go_wp21
          go_ret
          exact ⟨ret_bool HV.out.symm, f0⟩
        | true =>
          rw [q4] at cc
          have Hq4 := Lib.hid q4
          clear q4
          go_wp2_with fail
          refine (cc).mono ?_
          rintro e v' ⟨rfl, rfl⟩
          clear cc
          have cc := opOk_any ek ea eb eg eh v0
          cases q5 : (opB ek ea eb eg eh) with
          | false =>
            rw [q5] at cc
            have Hq5 := Lib.hid q5
            clear q5
            go_wp2_with fail
            refine (cc).mono ?_
            rintro e v1 ⟨rfl, b1⟩
            have f1 := bthen f0 b1
            have z1 := b1.size
            have Ha_1 := Lib.hid (Ha_0.out.below b1)
            clear lt_a r_a0 r_a1 r_a2 r_a3 r_a4 r_a5 r_a6 r_a7 r_a8
            clear Ha_0
            have lt_a := Ha_1.out.lt
            obtain ⟨r_a0, r_a1, r_a2, r_a3, r_a4, r_a5, r_a6, r_a7, r_a8⟩ := bc9 Ha_1.out
            have hv : entryB ex et ec es ek ea eb eg eh = false := by unfold entryB; rw [Hq1.out, Hq2.out, Hq3.out, Hq4.out, Hq5.out]; simp
            have HV := Lib.hid hv
            clear hv
            go_wp21
            go_ret
            exact ⟨ret_bool HV.out.symm, f1⟩
          | true =>
            rw [q5] at cc
            have Hq5 := Lib.hid q5
            clear q5
            go_wp2_with fail
            refine (cc).mono ?_
            rintro e v1 ⟨rfl, b1⟩
            have f1 := bthen f0 b1
            have z1 := b1.size
            have Ha_1 := Lib.hid (Ha_0.out.below b1)
            clear lt_a r_a0 r_a1 r_a2 r_a3 r_a4 r_a5 r_a6 r_a7 r_a8
            clear Ha_0
            have lt_a := Ha_1.out.lt
            obtain ⟨r_a0, r_a1, r_a2, r_a3, r_a4, r_a5, r_a6, r_a7, r_a8⟩ := bc9 Ha_1.out
            clear cc
            have hv : entryB ex et ec es ek ea eb eg eh = true := by unfold entryB; rw [Hq1.out, Hq2.out, Hq3.out, Hq4.out, Hq5.out]; rfl
            have HV := Lib.hid hv
            clear hv
            go_wp21
            go_ret
            exact ⟨ret_bool HV.out.symm, f1⟩
end Go.Proofs.YtbheflinchabgaaGreatDoor
namespace Go.Proofs.YtbheflinchabgaaGreatDoor
set_option linter.unusedSimpArgs false
set_option linter.unusedVariables false
attribute [local go_sem] n_lt2 n_lt3 n_lt4 n_le2 n_le3
open Go.RowKit
attribute [local go_sem] Ext.cell Ext.frozen

end Go.Proofs.YtbheflinchabgaaGreatDoor
namespace Go.Proofs.YtbheflinchabgaaGreatDoor
set_option linter.unusedSimpArgs false
set_option linter.unusedVariables false
attribute [local go_sem] n_lt2 n_lt3 n_lt4 n_le2 n_le3
open Go.RowKit
attribute [local go_sem] Ext.cell Ext.frozen
end Go.Proofs.YtbheflinchabgaaGreatDoor
namespace Go.Proofs.YtbheflinchabgaaGreatDoor
set_option linter.unusedSimpArgs false
set_option linter.unusedVariables false
attribute [local go_sem] n_lt2 n_lt3 n_lt4 n_le2 n_le3
open Go.RowKit
attribute [local go_sem] Ext.cell Ext.frozen
end Go.Proofs.YtbheflinchabgaaGreatDoor
namespace Go.Proofs.YtbheflinchabgaaGreatDoor
set_option linter.unusedSimpArgs false
set_option linter.unusedVariables false
attribute [local go_sem] n_lt2 n_lt3 n_lt4 n_le2 n_le3
open Go.RowKit

attribute [local go_sem] Ext.cell Ext.frozen

end Go.Proofs.YtbheflinchabgaaGreatDoor
namespace Go.Proofs.YtbheflinchabgaaGreatDoor
set_option linter.unusedSimpArgs false
set_option linter.unusedVariables false
attribute [local go_sem] n_lt2 n_lt3 n_lt4 n_le2 n_le3
open Go.RowKit
attribute [local go_sem] Ext.cell Ext.frozen

end Go.Proofs.YtbheflinchabgaaGreatDoor
namespace Go.Proofs.YtbheflinchabgaaGreatDoor
set_option linter.unusedSimpArgs false
set_option linter.unusedVariables false
attribute [local go_sem] n_lt2 n_lt3 n_lt4 n_le2 n_le3
open Go.RowKit

end Go.Proofs.YtbheflinchabgaaGreatDoor
namespace Go.Proofs.YtbheflinchabgaaGreatDoor
set_option linter.unusedSimpArgs false
set_option linter.unusedVariables false
attribute [local go_sem] n_lt2 n_lt3 n_lt4 n_le2 n_le3
open Go.RowKit
end Go.Proofs.YtbheflinchabgaaGreatDoor
namespace Go.Proofs.YtbheflinchabgaaGreatDoor
set_option linter.unusedSimpArgs false
set_option linter.unusedVariables false
attribute [local go_sem] n_lt2 n_lt3 n_lt4 n_le2 n_le3
open Go.RowKit

end Go.Proofs.YtbheflinchabgaaGreatDoor
namespace Go.Proofs.YtbheflinchabgaaGreatDoor
set_option linter.unusedSimpArgs false
set_option linter.unusedVariables false
attribute [local go_sem] n_lt2 n_lt3 n_lt4 n_le2 n_le3
open Go.RowKit

def look (l : List Pr) (key : Int) : Option Pr := l.find? (fun p => decide (p.k = key))
end Go.Proofs.YtbheflinchabgaaGreatDoor
namespace Go.Proofs.YtbheflinchabgaaGreatDoor
set_option linter.unusedSimpArgs false
set_option linter.unusedVariables false
attribute [local go_sem] n_lt2 n_lt3 n_lt4 n_le2 n_le3
open Go.RowKit

end Go.Proofs.YtbheflinchabgaaGreatDoor
namespace Go.Proofs.YtbheflinchabgaaGreatDoor
set_option linter.unusedSimpArgs false
set_option linter.unusedVariables false
attribute [local go_sem] n_lt2 n_lt3 n_lt4 n_le2 n_le3
open Go.RowKit

theorem Row.nil_of {w : World} {lo : Nat} {e : TypeId} {s : Nat} {A : Option Addr} {n cap : Nat} {zs : List Int} (h : Row w lo e s A n cap zs) : A = none → n = 0 ∧ cap = 0 := fun hA => by
  rcases h.2 with ⟨hv, h0⟩ | ⟨g, c, cur, hv, _⟩
  · injection hv with _ _ hc
    exact ⟨h0, hc⟩
  · injection hv with h1
    rw [hA] at h1
    cases h1
attribute [local go_sem] Ext.cell Ext.frozen


end Go.Proofs.YtbheflinchabgaaGreatDoor
namespace Go.Proofs.YtbheflinchabgaaGreatDoor
set_option linter.unusedSimpArgs false
set_option linter.unusedVariables false
attribute [local go_sem] n_lt2 n_lt3 n_lt4 n_le2 n_le3
open Go.RowKit
attribute [local go_sem] Ext.cell Ext.frozen


end Go.Proofs.YtbheflinchabgaaGreatDoor
namespace Go.Proofs.YtbheflinchabgaaGreatDoor
set_option linter.unusedSimpArgs false
set_option linter.unusedVariables false
attribute [local go_sem] n_lt2 n_lt3 n_lt4 n_le2 n_le3
open Go.RowKit
structure Ef where
  p : List Pr
  q : List Jb
  h : Int
  e : Int
  u : Int
end Go.Proofs.YtbheflinchabgaaGreatDoor
namespace Go.Proofs.YtbheflinchabgaaGreatDoor
set_option linter.unusedSimpArgs false
set_option linter.unusedVariables false
attribute [local go_sem] n_lt2 n_lt3 n_lt4 n_le2 n_le3
open Go.RowKit
structure En where
  x : Int
  t : Int
  c : Int
  s : Int
  k : Int
  a : Int
  b : Int
  g : Int
  h : Int
instance : Inhabited En := ⟨⟨0, 0, 0, 0, 0, 0, 0, 0, 0⟩⟩
/-- Entries, their numbers one behind the other. -/
def EN (l : List En) : List Int := l.flatMap fun e => [e.x, e.t, e.c, e.s, e.k, e.a, e.b, e.g, e.h]
theorem EN_len (l : List En) : (EN l).length = l.length * 9 := flat_len _ 9 l (fun _ _ => rfl)
theorem EN_append (a b : List En) : EN (a ++ b) = EN a ++ EN b := by unfold EN; rw [List.flatMap_append]
theorem EN_get (l : List En) (i j : Nat) (h : i < l.length) (hj : j < 9) : (EN l).getD (i * 9 + j) 0 = [(l.getD i default).x, (l.getD i default).t, (l.getD i default).c, (l.getD i default).s, (l.getD i default).k, (l.getD i default).a, (l.getD i default).b, (l.getD i default).g, (l.getD i default).h].getD j 0 := by
  have := flat_getD (fun e : En => [e.x, e.t, e.c, e.s, e.k, e.a, e.b, e.g, e.h]) 9 l (fun _ _ => rfl) i j h hj
  have e : l.getD i default = l[i] := by simp [List.getD, h]
  rw [e]
  exact this
theorem sl_entries {w : World} {b off n : Nat} {l : List En} (h : Sl w 9 (some ⟨b, off, none⟩) n (EN l)) (hn : 0 < n) : b < w.heap.size ∧
    ∀ i, i < n → ∀ j, j < 9 → w.cell? ⟨b, off + i * 9 + j, none⟩ = some (.int .i64 ([(l.getD i default).x, (l.getD i default).t, (l.getD i default).c, (l.getD i default).s, (l.getD i default).k, (l.getD i default).a, (l.getD i default).b, (l.getD i default).g, (l.getD i default).h].getD j 0)) := by
  have hl : l.length = n := by
    have := h.len
    rw [EN_len] at this
    omega
  obtain ⟨b', off', hA, hb, hc⟩ := h.at_ hn
  injection hA with hA
  injection hA with h1 h2
  subst h1 h2
  exact ⟨hb, fun i hi j hj => by rw [Nat.add_assoc, hc (i * 9 + j) (by omega), EN_get l i j (by omega) hj]⟩
theorem EN_take (l : List En) (k : Nat) : EN (l.take k) = (EN l).take (k * 9) := by
  induction l generalizing k with
  | nil => simp [EN]
  | cons e l ih =>
    cases k with
    | zero => simp [EN]
    | succ k =>
      rw [List.take_succ_cons]
      show [e.x, e.t, e.c, e.s, e.k, e.a, e.b, e.g, e.h] ++ EN (l.take k) = ([e.x, e.t, e.c, e.s, e.k, e.a, e.b, e.g, e.h] ++ EN l).take ((k + 1) * 9)
      rw [ih, show (k + 1) * 9 = 9 + k * 9 by omega, List.take_append, List.take_of_length_le (show [e.x, e.t, e.c, e.s, e.k, e.a, e.b, e.g, e.h].length ≤ 9 + k * 9 by simp)]
      simp
/-- A state, its numbers and lists. -/
structure Sta where
  i : Int
  t : Int
  p : List Pr
  q : List Jb
  h : Int
  e : Int
  u : Int
end Go.Proofs.YtbheflinchabgaaGreatDoor
namespace Go.Proofs.YtbheflinchabgaaGreatDoor
set_option linter.unusedSimpArgs false
set_option linter.unusedVariables false
attribute [local go_sem] n_lt2 n_lt3 n_lt4 n_le2 n_le3
open Go.RowKit
/-- The checksum of numbers. -/
def sumL (zs : List Int) : Int := zs.foldl (fun s x => (131 * s + x + 1) % 999999937) 7
theorem sumL_snoc (zs : List Int) (x : Int) : sumL (zs ++ [x]) = (131 * sumL zs + x + 1) % 999999937 := by unfold sumL; rw [List.foldl_append]; rfl
theorem sumL_range : ∀ zs : List Int, 0 ≤ sumL zs ∧ sumL zs ≤ 999999936 := fun zs => by
  rcases List.eq_nil_or_concat zs with rfl | ⟨l, x, rfl⟩
  · decide
  · rw [List.concat_eq_append, sumL_snoc]
    omega
/-- Numbers that a row may hold. -/
def numsL (zs : List Int) : Prop := ∀ x ∈ zs, 0 ≤ x ∧ x ≤ 1000000000
theorem numsL_get {zs : List Int} (h : numsL zs) {j : Nat} (hj : j < zs.length) : 0 ≤ zs.getD j 0 ∧ zs.getD j 0 ≤ 1000000000 := by
  have e : zs.getD j 0 = zs[j] := by simp [List.getD, hj]
  rw [e]
  exact h _ (List.getElem_mem hj)
theorem numsL_append {a b : List Int} (ha : numsL a) (hb : numsL b) : numsL (a ++ b) := fun x hx => by
  rcases List.mem_append.1 hx with h | h
  · exact ha x h
  · exact hb x h
def withL (zs : List Int) : List Int := zs ++ [sumL zs]
theorem withL_nums {zs : List Int} (h : numsL zs) : numsL (withL zs) := numsL_append h fun x hx => by
  obtain rfl := List.mem_singleton.1 hx
  have := sumL_range zs
  omega
theorem withL_len (zs : List Int) : (withL zs).length = zs.length + 1 := by simp [withL]
/-- What a row without its sum is. -/
def unsumL (zs : List Int) : Option (List Int) := if zs = [] then none else if sumL zs.dropLast = zs.getLastD 0 then some zs.dropLast else none
theorem unsumL_with (zs : List Int) : unsumL (withL zs) = some zs := by
  unfold unsumL withL
  rw [if_neg (by simp), List.dropLast_concat]
  simp
theorem unsumL_len {zs ys : List Int} (h : unsumL zs = some ys) : ys.length + 1 = zs.length := by
  unfold unsumL at h
  split at h
  · cases h
  · rename_i hz
    split at h
    · obtain rfl := Option.some.inj h
      have := List.length_pos_iff.2 hz
      rw [List.length_dropLast]
      omega
    · cases h
/-- The numbers of an entry; of its slot. -/
def entL (e : En) : List Int := [e.x, e.t, e.c, e.s, e.k, e.a, e.b, e.g, e.h]
def slotL (e : En) : List Int := entL e ++ [e.x, e.x]
theorem slotL_len (e : En) : (slotL e).length = 11 := rfl
/-- A torn write of a slot: never a slot again. -/
def tornL (row old : List Int) : List Int := row.take (row.length / 2) ++ (if row.length / 2 < old.length then old.drop (row.length / 2) else [])
theorem torn_slot {e : En} {old ys : List Int} (ho : old.length ≤ 1) (h : unsumL (tornL (withL (slotL e)) old) = some ys) : ys.length = 5 := by
  have h1 := unsumL_len h
  unfold tornL at h1
  rw [withL_len, slotL_len, if_neg (by omega), List.append_nil, List.length_take, withL_len, slotL_len] at h1
  omega
end Go.Proofs.YtbheflinchabgaaGreatDoor
namespace Go.Proofs.YtbheflinchabgaaGreatDoor
set_option linter.unusedSimpArgs false
set_option linter.unusedVariables false
attribute [local go_sem] n_lt2 n_lt3 n_lt4 n_le2 n_le3
open Go.RowKit
attribute [local go_sem] Ext.cell Ext.frozen
theorem sumL_take {zs : List Int} {k : Nat} (h : k < zs.length) : sumL (zs.take (k + 1)) = (131 * sumL (zs.take k) + zs.getD k 0 + 1) % 999999937 := by
  rw [List.take_add_one, show zs[k]?.toList = [zs.getD k 0] by simp [List.getD, h], sumL_snoc]
theorem cell_one_at (w : World) (x : Value) (t : TypeId) : ∀ j u, [x][j]? = some u → (w.alloc (.cells #[x] t)).cell? ((⟨w.heap.size, 0, none⟩ : Addr).add j) = some u := by
  intro j u hj
  match j, hj with
  | 0, hj => simp at hj; subst hj; simp [Addr.add]
theorem btr1 {w a b c : World} (h1 : Below w.heap.size w a) (h2 : Below a.heap.size a b) (h3 : Below w.heap.size b c) : Below w.heap.size w c := (bthen h1 h2).trans h3
set_option maxHeartbeats 1600000 in
theorem checksum_any (A : Option Addr) (n cap : Nat) (zs : List Int) (w : World) (hS : Sl w 1 A n zs) (hn : n ≤ 48) (hz : numsL zs) :
    Calls Tryz.prog 132 #[.slice A n cap] w fun e w' => e = .returned (.int .i64 (sumL zs)) ∧ w = w' := by
  have hl : zs.length = n := by have := hS.len; omega
  have HS := Lib.hid hS
  have HZ := Lib.hid hz
  clear hS hz
  go_enter Tryz.func132, Tryz.ntmps132
  go_wp2
  go_loopw [3, 8] (fun sv iv wr => ∃ k : Nat, k ≤ n ∧ iv = .int .i64 k ∧ sv = .int .i64 (sumL (zs.take k)) ∧ w = wr) (fun _ iv _ => n - (intOf iv).toNat)
  case atStart => exact ⟨0, Nat.zero_le _, rfl, rfl, rfl⟩
  case round =>
    obtain ⟨k, hk, rfl, rfl, rfl⟩ := hrel
    by_cases hlt : k < n
    · obtain ⟨b, off, rfl, hb, hcell⟩ := HS.out.at_ (by omega)
      have h0 := hcell k (by omega)
      have hx := numsL_get HZ.out (j := k) (by omega)
      have hs := sumL_range (zs.take k)
      have hst := Lib.hid (sumL_take (zs := zs) (k := k) (by omega))
      clear hcell
      generalize zs.getD k 0 = x at h0 hx hst
      generalize sumL (zs.take k) = s at hs hst
      have hlt' : (k : Int) < (n : Int) := by omega
      go_wp2
      refine ⟨⟨k + 1, by omega, by go_num, by rw [hst.out], by first | rfl | trivial⟩, by simp [intOf]; omega⟩
    · have hkn : k = n := by omega
      subst hkn
      go_wp2
      go_ret
      refine ⟨?_, by first | rfl | trivial⟩
      rw [List.take_of_length_le (by omega)]
      rfl
theorem numsB_of {zs : List Int} (h : numsL zs) : numsB zs := fun j hj => numsL_get h hj
set_option maxHeartbeats 1600000 in
theorem withSum_yes (A : Option Addr) (n cap : Nat) (zs : List Int) (w : World) (hS : Sl w 1 A n zs) (hn : n < 48) (hz : numsL zs) (hA : A = none → n = 0 ∧ cap = 0) :
    Calls Tryz.prog 122 #[.slice A n cap] w (RetRow w 2 1 (n + 1) (withL zs)) := by
  have c1 := rowOk_yes A n cap zs w hS (by omega) (numsB_of hz)
  have c2 := copyRow_any A n cap zs w hS (by omega) hA
  have HS := Lib.hid hS
  have HZ := Lib.hid hz
  have hn1 : ¬ (n : Int) = 48 := by omega
  have hn2 : ((n : Int) == 48) = false := by simpa using hn1
  clear hS hz hA
  go_enter Tryz.func122, Tryz.ntmps122
  go_wp2_with fail
  refine c1.mono ?_
  rintro e w' ⟨rfl, rfl⟩
  clear c1
  go_wp2_with fail
  refine c2.mono ?_
  rintro e w2 ⟨A2, c2_, rfl, R2, b2⟩
  clear c2
  have c3 := checksum_any A n cap zs w2 (HS.out.below b2) (by omega) HZ.out
  have HR := Lib.hid R2
  clear R2
  have hz2 := b2.size
  go_wp2_with fail
  refine c3.mono ?_
  rintro e w3 ⟨rfl, rfl⟩
  clear c3
  go_wp2_with (at_builtin; refine wpList_append_row rfl _ _ 59 rfl 2 (.int .i64 0) 1 8 Tryz.underlying59 info_Int64 (by first | kernel_rfl | simp [Value.cells]) (by decide) w.heap.size A2 n c2_ zs rfl (HR.out.alloc _) ⟨w2.heap.size, 0, none⟩ 1 1 [sumL zs] rfl rfl (cell_one_at _ _ _) (by unfold maxLen; omega) (by omega) (by simp; omega) ?_; intro A5 c5 w5 R5 B5)
  go_ret
  exact RetRow.mk R5 (btr1 b2 ((Below.refl w2.heap.size w2).alloc (Nat.le_refl _) _) B5)
end Go.Proofs.YtbheflinchabgaaGreatDoor
namespace Go.Proofs.YtbheflinchabgaaGreatDoor
set_option linter.unusedSimpArgs false
set_option linter.unusedVariables false
attribute [local go_sem] n_lt2 n_lt3 n_lt4 n_le2 n_le3
open Go.RowKit
attribute [local go_sem] Ext.cell Ext.frozen
theorem info_SlInt : (Tryz.prog.info? 59).map (fun i => (i.zero, i.size, i.bytes)) = some (some (.slice none 0 0), 1, 24) := by kernel_rfl
theorem Rws.of_take {w : World} {vs : List Value} {rows : List (List Int)} {k : Nat} {v : Value} (h : Rws w vs (rows.take k)) (hk : k < rows.length) (hv : Rw w v (rows.getD k [])) : Rws w (vs ++ [v]) (rows.take (k + 1)) := by
  rw [List.take_add_one, show rows[k]?.toList = [rows.getD k []] by simp [List.getD, hk]]
  exact h.snoc hv
/-- The rows lie apart from the slice's own block. -/
def Apv (O : Option Addr) (vs : List Value) : Prop := ∀ v ∈ vs, ∀ A n c, v = .slice A n c → ∀ a o, A = some a → O = some o → a.block ≠ o.block
theorem Apv.nil (O : Option Addr) : Apv O [] := fun v hv => by cases hv
theorem Rw.wrote {w w' : World} {v : Value} {zs : List Int} {O : Option Addr} (h : Rw w v zs) (hw : Wrote w w' O) (hne : ∀ A n c, v = .slice A n c → ∀ a o, A = some a → O = some o → a.block ≠ o.block) : Rw w' v zs := by
  obtain ⟨A, c, hv, hS, h1, h2, h3, h4⟩ := h
  exact ⟨A, c, hv, hS.wrote hw (fun _ a o ha ho => hne A _ c hv a o ha ho), h1, h2, h3, h4.mono hw.size⟩
theorem Rws.wrote {w w' : World} {vs : List Value} {rows : List (List Int)} {O : Option Addr} (h : Rws w vs rows) (hw : Wrote w w' O) (hne : Apv O vs) : Rws w' vs rows :=
  ⟨h.1, fun j hj => by
    obtain ⟨v, hv, hR⟩ := h.2 j hj
    exact ⟨v, hv, hR.wrote hw (hne v (List.mem_of_getElem? hv))⟩⟩
theorem Rws.ltb {w : World} {vs : List Value} {rows : List (List Int)} (h : Rws w vs rows) : ∀ v ∈ vs, ∀ A n c, v = .slice A n c → LtB A w.heap.size := fun v hv A n c he => by
  obtain ⟨j, hj, rfl⟩ := List.getElem_of_mem hv
  obtain ⟨u, hu, hR⟩ := h.2 j (by rw [← h.1]; exact hj)
  rw [List.getElem?_eq_getElem hj] at hu
  obtain rfl := Option.some.inj hu
  obtain ⟨A', c', hv', _, _, _, _, h4⟩ := hR
  rw [he] at hv'
  injection hv' with h1
  rw [h1]
  exact h4
/-- The rows lie at lo or beyond it. -/
def Lov (lo : Nat) (vs : List Value) : Prop := ∀ v ∈ vs, ∀ A n c, v = .slice A n c → ∀ a, A = some a → lo ≤ a.block
theorem Lov.nil (lo : Nat) : Lov lo [] := fun v hv => by cases hv
theorem Lov.snoc {lo : Nat} {vs : List Value} {u : Value} (h : Lov lo vs) (hu : ∀ A n c, u = .slice A n c → ∀ a, A = some a → lo ≤ a.block) : Lov lo (vs ++ [u]) := fun v hv => by
  rcases List.mem_append.1 hv with h1 | h1
  · exact h v h1
  · obtain rfl := List.mem_singleton.1 h1
    exact hu
def RetRows (w : World) (E n : Nat) (rows : List (List Int)) (e : Ending) (w' : World) : Prop := ∃ A c vs, e = .returned (.slice A n c) ∧ RowV w' w.heap.size E 1 A n c vs ∧ Rws w' vs rows ∧ Apv A vs ∧ Below w.heap.size w w' ∧ Lov w.heap.size vs
set_option maxRecDepth 100000 in
set_option maxHeartbeats 4000000 in
theorem copyRows_any (A : Option Addr) (n cap : Nat) (rows : List (List Int)) (w : World) (hS : SlR w A n rows) (hn : n ≤ 100) (hr : ∀ r ∈ rows, r.length ≤ 1000) :
    Calls Tryz.prog 125 #[.slice A n cap] w (RetRows w 59 n rows) := by
  have hl := hS.len
  have HS := Lib.hid hS
  have HR := Lib.hid hr
  clear hS hr
  obtain ⟨i0, hi0, hz0, hs0, hy0⟩ := info_parts info_SlInt
  go_enter Tryz.func125, Tryz.ntmps125
  go_wp2_with (at_make; refine wpList_make_own _ rfl _ _ 37 rfl w.heap.size 59 i0 (.slice none 0 0) 1 Tryz.underlying37 hi0 hz0 hs0 .i64 .i64 n n rfl rfl rfl (by rw [hy0]; omega) (by unfold maxLen; omega) (Nat.le_refl _) ?_; intro w1 R1 G1)
  have B1 : Below w.heap.size w w1 := (Below.refl w.heap.size w).grown G1 (Nat.le_refl _) (fun k hk => by cases hk)
  have R1' : Hid (RowV w1 w.heap.size 59 1 (some ⟨w.heap.size, 0, none⟩) 0 n []) := Lib.hid R1
  clear R1 G1 hi0 hz0 hs0 hy0 i0
  go_loopw [3, 11] (fun ov iv wr => ∃ (k : Nat) (A5 : Option Addr) (c5 : Nat) (vs : List Value), k ≤ n ∧ iv = .int .i64 k ∧ ov = .slice A5 k c5 ∧ Hid (RowV wr w.heap.size 59 1 A5 k c5 vs) ∧ Hid (Rws wr vs (rows.take k)) ∧ Hid (Apv A5 vs) ∧ Hid (Below w.heap.size w wr) ∧ Hid (Lov w.heap.size vs)) (fun _ iv _ => n - (intOf iv).toNat)
  case atStart => exact ⟨0, some ⟨w.heap.size, 0, none⟩, n, [], Nat.zero_le _, rfl, rfl, R1', Lib.hid (Rws.nil _), Lib.hid (Apv.nil _), Lib.hid B1, Lib.hid (Lov.nil _)⟩
  case round =>
    clear R1' B1 w1
    obtain ⟨k, A5, c5, vs, hk, rfl, rfl, HV, HW, HA, HB, HL⟩ := hrel
    by_cases hlt : k < n
    · obtain ⟨b, off, v, rfl, hb, hc, hv⟩ := (HS.out.below HB.out).at_ hlt
      obtain ⟨Ax, cx, rfl, hSx, hx1, hx2, hx3, hx4⟩ := hv
      have hlx : (rows.getD k []).length ≤ 1000 := by
        have e : rows.getD k [] = rows[k] := by simp [List.getD, show k < rows.length by omega]
        rw [e]
        exact HR.out _ (List.getElem_mem _)
      have c1 := copyRow_any Ax _ cx (rows.getD k []) wr hSx (by omega) hx3
      have hTk := Lib.hid (fun (w' : World) (v : Value) (h : Rws w' vs (rows.take k)) (hv : Rw w' v (rows.getD k [])) => Rws.of_take h (by omega) hv)
      generalize rows.getD k [] = rk at c1 hSx hx1 hx3 hlx hTk hc
      clear hSx hx1 hx2 hx3 hx4
      have hlt' : (k : Int) < (n : Int) := by omega
      have hbz := HB.out.size
      go_wp2_with fail
      refine c1.mono ?_
      rintro e w2 ⟨A2, c2, rfl, R2, b2⟩
      clear c1
      have hz2 := b2.size
      have HV2 := Lib.hid (HV.out.below b2)
      have HW2 := Lib.hid (HW.out.below b2)
      have HB2 := Lib.hid (HB.out.trans (b2.mono hbz))
      have hR2 := Lib.hid R2
      have lV := Lib.hid HV.out.lt
      clear HV HW HB R2 b2
      go_wp2_with (at_builtin; refine wpList_append_rowV rfl _ _ 37 rfl 59 (.slice none 0 0) 1 24 Tryz.underlying37 info_SlInt (by first | kernel_rfl | simp [Value.cells]) (by decide) w.heap.size A5 k c5 vs rfl (HV2.out.alloc _) ⟨w2.heap.size, 0, none⟩ 1 1 [.slice A2 rk.length c2] rfl rfl (cell_one_at _ _ _) (by intro u hu; obtain rfl := List.mem_singleton.1 hu; rfl) (by unfold maxLen; omega) (by omega) (by simp; omega) ?_; intro A6 c6 w6 R6 B6 W6 L6)
      have hal : Below w.heap.size w2 (w2.alloc (.cells #[.slice A2 rk.length c2] 59)) := (Below.refl w.heap.size w2).alloc (by omega) _
      have HW3 := (HW2.out.below ((Below.refl w2.heap.size w2).alloc (Nat.le_refl _) (.cells #[.slice A2 rk.length c2] 59))).wrote W6 HA.out
      have hne2 : ∀ A n c, Value.slice A2 rk.length c2 = .slice A n c → ∀ a o, A = some a → A5 = some o → a.block ≠ o.block := fun A n c he a o ha ho => by
        injection he with h1
        rw [← h1] at ha
        have h2 := hR2.out.ge a ha
        have h3 := lV.out o ho
        omega
      have hv3 := ((Rw.of_row hR2.out).below ((Below.refl w2.heap.size w2).alloc (Nat.le_refl _) (.cells #[.slice A2 rk.length c2] 59))).wrote W6 hne2
      have lt2 := HW2.out.ltb
      have lr2 := hR2.out.lt
      have hsz : (w2.alloc (.cells #[.slice A2 rk.length c2] 59)).heap.size = w2.heap.size + 1 := by simp
      refine ⟨⟨k + 1, A6, c6, vs ++ [.slice A2 rk.length c2], by omega, by go_num, rfl, Lib.hid R6, Lib.hid (hTk.out _ _ HW3 hv3), Lib.hid ?_, Lib.hid ((HB2.out.trans hal).trans B6), Lib.hid (HL.out.snoc (fun A n c he a ha => by injection he with h1; rw [← h1] at ha; have := hR2.out.ge a ha; omega))⟩, by simp [intOf]; omega⟩
      intro v hv A n' c' he a o ha ho
      rcases L6 o ho with ⟨o5, ho5, hoe⟩ | hnew
      · rw [← hoe]
        rcases List.mem_append.1 hv with h | h
        · exact HA.out v h A n' c' he a o5 ha ho5
        · obtain rfl := List.mem_singleton.1 h
          exact hne2 A n' c' he a o5 ha ho5
      · rcases List.mem_append.1 hv with h | h
        · have := lt2 v h A n' c' he a ha
          omega
        · obtain rfl := List.mem_singleton.1 h
          injection he with h1
          rw [← h1] at ha
          have := lr2 a ha
          omega
    · have hkn : k = n := by omega
      subst hkn
      go_wp2
      go_ret
      replace HW := HW.out
      rw [List.take_of_length_le (by omega)] at HW
      exact ⟨A5, c5, vs, rfl, HV.out, HW, HA.out, HB.out, HL.out⟩
end Go.Proofs.YtbheflinchabgaaGreatDoor
namespace Go.Proofs.YtbheflinchabgaaGreatDoor
set_option linter.unusedSimpArgs false
set_option linter.unusedVariables false
attribute [local go_sem] n_lt2 n_lt3 n_lt4 n_le2 n_le3
open Go.RowKit
/-- The numbers of the head that the log writes. -/
def headL : List Int := [0, 0, 0, 0, 0, 0, 0, 0, 0, 0, 0, 0, 0]
def slotW (e : En) : List Int := withL (slotL e)
/-- A disk that holds the head and the slots of ds, all else reads as z. -/
def diskL (z : List Int) (ds : List En) : List (List Int) := withL headL :: z :: z :: (ds.map slotW ++ List.replicate (19 - ds.length) z)
def blankL (z : List Int) : Prop := z = [] ∨ z = [7]
def rowL2 (zs : List Int) : Prop := zs.length ≤ 48 ∧ numsL zs
theorem blankL.len {z : List Int} (h : blankL z) : z.length ≤ 1 := by rcases h with rfl | rfl <;> simp
theorem blankL.nums {z : List Int} (h : blankL z) : numsL z := by
  rcases h with rfl | rfl
  · intro x hx; cases hx
  · intro x hx
    obtain rfl := List.mem_singleton.1 hx
    decide
theorem blankL.row {z : List Int} (h : blankL z) : rowL2 z := ⟨by have := h.len; omega, h.nums⟩
theorem blankL.uns {z : List Int} (h : blankL z) : unsumL z = none ∨ unsumL z = some [] := by
  rcases h with rfl | rfl
  · exact .inl (by decide)
  · exact .inr (by decide)
theorem withL_nil : withL [] = [7] := by decide
theorem diskL_len {z : List Int} {ds : List En} (h : ds.length ≤ 19) : (diskL z ds).length = 22 := by
  simp [diskL]; omega
theorem diskL_slot (z : List Int) (ds : List En) (i : Nat) (h : i < ds.length) : (diskL z ds).getD (3 + i) [] = slotW (ds.getD i default) := by
  rw [show 3 + i = i + 1 + 1 + 1 by omega]
  unfold diskL
  rw [List.getD_cons_succ, List.getD_cons_succ, List.getD_cons_succ]
  simp [List.getD, List.getElem?_append_left, h]
theorem diskL_rest (z : List Int) (ds : List En) (i : Nat) (h : ds.length ≤ i) (h2 : i < 19) : (diskL z ds).getD (3 + i) [] = z := by
  rw [show 3 + i = i + 1 + 1 + 1 by omega]
  unfold diskL
  rw [List.getD_cons_succ, List.getD_cons_succ, List.getD_cons_succ]
  have h3 : i - ds.length < 19 - ds.length := by omega
  simp [List.getD, List.getElem?_append_right, h, List.getElem?_replicate, h3]
theorem rows_ext {α : Type} {a b : List (List α)} (hl : a.length = b.length) (h : ∀ i, i < a.length → a.getD i [] = b.getD i []) : a = b := by
  apply List.ext_getElem hl
  intro i h1 h2
  have := h i h1
  simpa [List.getD, h1, h2] using this
theorem set_getD {α : Type} (l : List (List α)) (i j : Nat) (x : List α) (hj : j < l.length) : (l.set i x).getD j [] = if i = j then x else l.getD j [] := by
  simp only [List.getD, List.getElem?_set]
  by_cases h : i = j
  · subst h; simp [hj]
  · simp [h]
theorem diskL_grow (z : List Int) (ds : List En) (p : En) (h : ds.length < 19) : (diskL z ds).set (3 + ds.length) (slotW p) = diskL z (ds ++ [p]) := by
  apply rows_ext
  · rw [List.length_set, diskL_len (by omega), diskL_len (by simp; omega)]
  · intro i hi
    rw [List.length_set, diskL_len (by omega)] at hi
    rw [set_getD _ _ _ _ (by rw [diskL_len (by omega)]; exact hi)]
    match i, hi with
    | 0, _ => rw [if_neg (by omega)]; rfl
    | 1, _ => rw [if_neg (by omega)]; rfl
    | 2, _ => rw [if_neg (by omega)]; rfl
    | k + 3, hi =>
      rw [show k + 3 = 3 + k by omega]
      by_cases hk : k < ds.length
      · rw [if_neg (by omega), diskL_slot _ _ _ hk, diskL_slot _ _ _ (by simp; omega)]
        simp [List.getD, List.getElem?_append_left hk]
      · by_cases he : k = ds.length
        · subst he
          rw [if_pos rfl, diskL_slot _ _ _ (by simp)]
          simp [List.getD]
        · rw [if_neg (by omega), diskL_rest _ _ _ (by omega) (by omega), diskL_rest _ _ _ (by simp; omega) (by omega)]
theorem set_same {α : Type} (l : List (List α)) (i : Nat) (x : List α) (h : l.getD i [] = x) (hi : i < l.length) : l.set i x = l := by
  apply rows_ext (by simp)
  intro j hj
  rw [List.length_set] at hj
  rw [set_getD _ _ _ _ hj]
  by_cases e : i = j
  · subst e; rw [if_pos rfl, h]
  · rw [if_neg e]
/-- Entries that the log of one client holds: the i-th has the Index and the Seq i + 1. -/
def entP (i : Nat) (e : En) : Prop := e.x = (i : Int) + 1 ∧ e.c = 4 ∧ e.s = (i : Int) + 1 ∧ e.k = 1 ∧ (0 ≤ e.a ∧ e.a ≤ 9) ∧ (0 ≤ e.b ∧ e.b ≤ 999) ∧ e.g = 0 ∧ e.h = 0 ∧ (0 ≤ e.t ∧ e.t ≤ 1000)
def entsP (es : List En) : Prop := es.length ≤ 8 ∧ (∀ i, i < es.length → entP i (es.getD i default)) ∧ ∀ i, i + 1 < es.length → (es.getD i default).t ≤ (es.getD (i + 1) default).t
theorem entsP.nil : entsP [] := ⟨by simp, fun i hi => by simp at hi, fun i hi => by simp at hi⟩
theorem entsP.take {es : List En} (h : entsP es) (k : Nat) : entsP (es.take k) := by
  have e : ∀ i, i < (es.take k).length → (es.take k).getD i default = es.getD i default := fun i hi => by
    rw [List.length_take] at hi
    simp [List.getD, List.getElem?_take, show i < k by omega]
  refine ⟨by have := h.1; rw [List.length_take]; omega, fun i hi => ?_, fun i hi => ?_⟩
  · rw [e i hi]
    rw [List.length_take] at hi
    exact h.2.1 i (by omega)
  · rw [e i (by omega), e (i + 1) hi]
    rw [List.length_take] at hi
    exact h.2.2 i (by omega)
/-- The Time of the last entry. -/
def timeL (es : List En) : Int := if es.length = 0 then 0 else (es.getD (es.length - 1) default).t
theorem entsP.snoc {es : List En} {p : En} (h : entsP es) (hl : es.length < 8) (hp : entP es.length p) (ht : timeL es ≤ p.t) : entsP (es ++ [p]) := by
  have e1 : ∀ i, i < es.length → (es ++ [p]).getD i default = es.getD i default := fun i hi => by simp [List.getD, List.getElem?_append_left hi]
  have e2 : (es ++ [p]).getD es.length default = p := by simp [List.getD]
  refine ⟨by simp; omega, fun i hi => ?_, fun i hi => ?_⟩
  · rw [List.length_append, List.length_singleton] at hi
    by_cases hlt : i < es.length
    · rw [e1 i hlt]; exact h.2.1 i hlt
    · have : i = es.length := by omega
      subst this
      rw [e2]; exact hp
  · rw [List.length_append, List.length_singleton] at hi
    by_cases hlt : i + 1 < es.length
    · rw [e1 i (by omega), e1 (i + 1) hlt]; exact h.2.2 i hlt
    · have hh : i + 1 = es.length := by omega
      rw [e1 i (by omega), hh, e2]
      unfold timeL at ht
      rw [if_neg (by omega)] at ht
      rw [show i = es.length - 1 by omega]
      exact ht
theorem slotL_nums {i : Nat} {e : En} (h : entP i e) (hi : i < 8) : numsL (slotL e) := by
  obtain ⟨h1, h2, h3, h4, ⟨h5, h5'⟩, ⟨h6, h6'⟩, h7, h8, h9, h9'⟩ := h
  intro x hx
  unfold slotL entL at hx
  simp only [List.cons_append, List.nil_append, List.mem_cons, List.not_mem_nil, or_false] at hx
  rcases hx with rfl | rfl | rfl | rfl | rfl | rfl | rfl | rfl | rfl | rfl | rfl <;> omega
theorem headL_nums : numsL headL := fun x hx => by
  unfold headL at hx
  simp only [List.mem_cons, List.not_mem_nil, or_false, or_self] at hx
  subst hx
  decide
/-- The rows of a sector of both disks without their sums, the unlike ones. -/
def rightL (a b : List Int) : List (List Int) :=
  match unsumL a with
  | none => (match unsumL b with | none => [] | some y => [y])
  | some x => (match unsumL b with | none => [x] | some y => if x = y then [x] else [x, y])
/-- The marks behind entries; the acknowledgments owed. -/
def markL (es : List En) : List Int := if es.length = 0 then [] else [4, (es.length : Int), (es.length : Int)]
def markN (es : List En) : Nat := if es.length = 0 then 0 else 1
def oweL (es : List En) (D : Nat) : List Int := if D < es.length then [4, (es.length : Int), (es.length : Int), (es.length : Int)] else []
def oweN (es : List En) (D : Nat) : Nat := if D < es.length then 1 else 0
end Go.Proofs.YtbheflinchabgaaGreatDoor
namespace Go.Proofs.YtbheflinchabgaaGreatDoor
set_option linter.unusedSimpArgs false
set_option linter.unusedVariables false
attribute [local go_sem] n_lt2 n_lt3 n_lt4 n_le2 n_le3
open Go.RowKit
/-- The blocks of S are in w' as they were in w. -/
structure Agr (S : Nat → Prop) (w w' : World) : Prop where
  os : w'.os = w.os
  tape : w'.tape = w.tape
  output : w'.output = w.output
  size : w.heap.size ≤ w'.heap.size
  block : ∀ k, S k → k < w.heap.size → w'.heap[k]? = w.heap[k]?
theorem Agr.refl (S : Nat → Prop) (w : World) : Agr S w w := ⟨rfl, rfl, rfl, Nat.le_refl _, fun _ _ _ => rfl⟩
theorem Agr.trans {S : Nat → Prop} {a b c : World} (h : Agr S a b) (k : Agr S b c) : Agr S a c :=
  ⟨k.os.trans h.os, k.tape.trans h.tape, k.output.trans h.output, Nat.le_trans h.size k.size, fun i hs hi => (k.block i hs (Nat.lt_of_lt_of_le hi h.size)).trans (h.block i hs hi)⟩
theorem Agr.sub {S T : Nat → Prop} {a b : World} (h : Agr T a b) (hs : ∀ k, S k → T k) : Agr S a b := ⟨h.os, h.tape, h.output, h.size, fun k hk => h.block k (hs k hk)⟩
theorem Agr.below {S : Nat → Prop} {a b : World} (h : Agr S a b) (hs : ∀ k, k < a.heap.size → S k) : Below a.heap.size a b := ⟨h.os, h.tape, h.output, h.size, fun k hk => h.block k (hs k hk) hk⟩
theorem Below.agr {S : Nat → Prop} {a b : World} (h : Below a.heap.size a b) : Agr S a b := ⟨h.os, h.tape, h.output, h.size, fun k _ hk => h.block k hk⟩
theorem Below.agrB {S : Nat → Prop} {B : Nat} {a b : World} (h : Below B a b) (hs : ∀ k, S k → k < B) : Agr S a b := ⟨h.os, h.tape, h.output, h.size, fun k hk _ => h.block k (hs k hk)⟩
theorem Agr.set_ {S : Nat → Prop} {w w' : World} (h : Agr S w w') {g : Nat} (hg : ¬ S g) (i : Nat) (u : Value) : Agr S w (w'.setCell ⟨g, i, none⟩ u) :=
  ⟨h.os, h.tape, h.output, by simpa [World.setCell] using h.size, fun k hk hl => by
    rw [Below.heap_setCell w' ⟨g, i, none⟩ u k (by rintro rfl; exact hg hk)]
    exact h.block k hk hl⟩
theorem Agr.wrote {S : Nat → Prop} {w w' : World} {A : Option Addr} (h : Wrote w w' A) (hA : ∀ a, A = some a → ¬ S a.block) : Agr S w w' :=
  ⟨h.os, h.tape, h.output, h.size, fun k hk hl => World.grownBy.block h k hl (by
    cases A with
    | none => simp
    | some a => simp only [Option.map_some, ne_eq, Option.some.injEq]; rintro rfl; exact hA a rfl hk)⟩
def On (S : Nat → Prop) (P : World → Prop) (w : World) : Prop := ∀ w', Agr S w w' → P w'
section
variable {S T : Nat → Prop} {P Q : World → Prop} {w w' : World}
theorem On.out (h : On S P w) : P w := h w (Agr.refl _ _)
theorem On.agr (h : On S P w) (ha : Agr S w w') : On S P w' := fun v hv => h v (ha.trans hv)
theorem On.below (h : On S P w) (hb : Below w.heap.size w w') : On S P w' := h.agr (Below.agr hb)
theorem On.alloc (h : On S P w) (o : Obj) : On S P (w.alloc o) := h.below ((Below.refl _ _).alloc (Nat.le_refl _) o)
theorem On.drew (h : On S P w) : On S P w.drew := h.below (Below.drew (Below.refl _ _))
theorem On.far (h : On S P w) {g : Nat} (hg : ¬ S g) (i : Nat) (u : Value) : On S P (w.setCell ⟨g, i, none⟩ u) := h.agr ((Agr.refl _ _).set_ hg i u)
theorem On.wrote (h : On S P w) {A : Option Addr} (hw : Wrote w w' A) (hA : ∀ a, A = some a → ¬ S a.block) : On S P w' := h.agr (Agr.wrote hw hA)
theorem On.map (h : On S P w) (f : ∀ v, P v → Q v) : On S Q w := fun v hv => f v (h v hv)
theorem On.and (h : On S P w) (k : On S Q w) : On S (fun v => P v ∧ Q v) w := fun v hv => ⟨h v hv, k v hv⟩
theorem On.sub (h : On S P w) (hs : ∀ k, S k → T k) : On T P w := fun v hv => h v (hv.sub hs)
theorem On.inB {B : Nat} (h : On S P w) (hb : Below B w w') (hs : ∀ k, S k → k < B) : On S P w' := h.agr (Below.agrB hb hs)
end
/-- The blocks from lo on, below hi. -/
def Rg (lo hi : Nat) : Nat → Prop := fun k => lo ≤ k ∧ k < hi
theorem Rg.sub {a b c d : Nat} (h1 : c ≤ a) (h2 : b ≤ d) : ∀ k, Rg a b k → Rg c d k := fun k hk => ⟨Nat.le_trans h1 hk.1, Nat.lt_of_lt_of_le hk.2 h2⟩
theorem Rg.no {lo hi g : Nat} (h : g < lo ∨ hi ≤ g) : ¬ Rg lo hi g := fun hk => by rcases h with h | h; exact absurd hk.1 (by omega); exact absurd hk.2 (by omega)
theorem On.below_of {P : World → Prop} {w : World} (h : ∀ w', Below w.heap.size w w' → P w') : On (Rg 0 w.heap.size) P w := fun v hv => h v (hv.below (fun k hk => ⟨Nat.zero_le _, hk⟩))
theorem Rw.agr {S : Nat → Prop} {w w' : World} {v : Value} {zs : List Int} (h : Rw w v zs) (ha : Agr S w w') (hS : ∀ A n c, v = .slice A n c → ∀ a, A = some a → S a.block) : Rw w' v zs := by
  obtain ⟨A, c, hv, hSl, h1, h2, h3, h4⟩ := h
  refine ⟨A, c, hv, hSl.keep ha.size (fun p hp => ?_), h1, h2, h3, h4.mono ha.size⟩
  cases A with
  | none => cases hp
  | some a =>
    simp only [Option.map_some, Option.some.injEq] at hp
    have := hS _ _ _ hv a rfl
    rw [hp] at this
    exact World.cell?_of_block (ha.block _ this (by have := h4 a rfl; omega))
theorem Rws.agr {S : Nat → Prop} {w w' : World} {vs : List Value} {rows : List (List Int)} (h : Rws w vs rows) (ha : Agr S w w') (hS : ∀ v ∈ vs, ∀ A n c, v = .slice A n c → ∀ a, A = some a → S a.block) : Rws w' vs rows :=
  ⟨h.1, fun j hj => by
    obtain ⟨v, hv, hR⟩ := h.2 j hj
    exact ⟨v, hv, hR.agr ha (hS v (List.mem_of_getElem? hv))⟩⟩
theorem RowV.agr {S : Nat → Prop} {w w' : World} {lo : Nat} {e : TypeId} {s : Nat} {A : Option Addr} {n cap : Nat} {vs : List Value} (h : RowV w lo e s A n cap vs) (ha : Agr S w w') (hS : ∀ a, A = some a → S a.block) : RowV w' lo e s A n cap vs :=
  h.keep fun a hA => ha.block _ (hS a hA) (h.lt a hA)
theorem Row.agr {S : Nat → Prop} {w w' : World} {lo : Nat} {e : TypeId} {s : Nat} {A : Option Addr} {n cap : Nat} {zs : List Int} (h : Row w lo e s A n cap zs) (ha : Agr S w w') (hS : ∀ a, A = some a → S a.block) : Row w' lo e s A n cap zs :=
  h.keep fun a hA => ha.block _ (hS a hA) (h.lt a hA)
/-- A row of the call's own rests on its own range. -/
theorem Row.on {w : World} {lo : Nat} {e : TypeId} {s : Nat} {A : Option Addr} {n cap : Nat} {zs : List Int} (h : Row w lo e s A n cap zs) : On (Rg lo w.heap.size) (fun v => Row v lo e s A n cap zs) w := fun v hv =>
  h.agr hv fun a ha => ⟨h.ge a ha, h.lt a ha⟩
theorem RowV.on {w : World} {lo : Nat} {e : TypeId} {s : Nat} {A : Option Addr} {n cap : Nat} {vs : List Value} (h : RowV w lo e s A n cap vs) : On (Rg lo w.heap.size) (fun v => RowV v lo e s A n cap vs) w := fun v hv =>
  h.agr hv fun a ha => ⟨h.ge a ha, h.lt a ha⟩
theorem Blk.on {w : World} {g e : Nat} {cs : Array Value} (h : Blk w g e cs) : On (fun k => k = g) (fun v => Blk v g e cs) w := fun v hv => (hv.block g rfl h.lt).trans h
/-- Rows of the call's own: the slice of them, and each. -/
structure OwnK (w : World) (lo E : Nat) (K : Option Addr) (n c : Nat) (rows : List (List Int)) (vs : List Value) : Prop where
  r : RowV w lo E 1 K n c vs
  s : Rws w vs rows
  a : Apv K vs
  l : Lov lo vs
theorem OwnK.rg {w : World} {lo E : Nat} {K : Option Addr} {n c : Nat} {rows : List (List Int)} {vs : List Value} (h : OwnK w lo E K n c rows vs) : ∀ v ∈ vs, ∀ A n c, v = .slice A n c → ∀ a, A = some a → Rg lo w.heap.size a.block :=
  fun v hv A n c he a ha => ⟨h.l v hv A n c he a ha, h.s.ltb v hv A n c he a ha⟩
theorem OwnK.agr {S : Nat → Prop} {w w' : World} {lo E : Nat} {K : Option Addr} {n c : Nat} {rows : List (List Int)} {vs : List Value} (h : OwnK w lo E K n c rows vs) (ha : Agr S w w') (hS : ∀ k, Rg lo w.heap.size k → S k) : OwnK w' lo E K n c rows vs :=
  ⟨h.r.agr ha (fun a hA => hS _ ⟨h.r.ge a hA, h.r.lt a hA⟩), h.s.agr ha (fun v hv A n c he a hA => hS _ (h.rg v hv A n c he a hA)), h.a, h.l⟩
theorem OwnK.on {w : World} {lo E : Nat} {K : Option Addr} {n c : Nat} {rows : List (List Int)} {vs : List Value} (h : OwnK w lo E K n c rows vs) : On (Rg lo w.heap.size) (fun v => OwnK v lo E K n c rows vs) w := fun _ hv => h.agr hv (fun _ hk => hk)
theorem OwnK.slr {w : World} {lo E : Nat} {K : Option Addr} {n c : Nat} {rows : List (List Int)} {vs : List Value} (h : OwnK w lo E K n c rows vs) : SlR w K n rows := ⟨vs, h.r.sl, h.s⟩
theorem OwnK.below {w w' : World} {lo E : Nat} {K : Option Addr} {n c : Nat} {rows : List (List Int)} {vs : List Value} (h : OwnK w lo E K n c rows vs) (hb : Below w.heap.size w w') : OwnK w' lo E K n c rows vs := h.agr (S := fun _ => True) (Below.agr hb) (fun _ _ => trivial)
theorem OwnK.block {w : World} {lo E : Nat} {K : Option Addr} {n c : Nat} {rows : List (List Int)} {vs : List Value} (h : OwnK w lo E K n c rows vs) (hn : 0 < n) : ∃ kb cur, K = some ⟨kb, 0, none⟩ ∧ lo ≤ kb ∧ kb < w.heap.size ∧ Blk w kb E cur ∧ cur.size = c ∧ n ≤ c ∧ c ≤ maxLen ∧ cur.toList.take n = vs := by
  rcases h.r.2 with ⟨_, h0⟩ | ⟨g, c', cur, hv, hb, hg, h1, h2, hcs, ht⟩
  · omega
  · injection hv with e1 e2 e3
    subst e1 e3
    exact ⟨g, cur, rfl, hb, h.r.lt _ rfl, hg, by omega, h1, h2, by rw [← ht]; simp⟩
end Go.Proofs.YtbheflinchabgaaGreatDoor
namespace Go.Proofs.YtbheflinchabgaaGreatDoor
set_option linter.unusedSimpArgs false
set_option linter.unusedVariables false
attribute [local go_sem] n_lt2 n_lt3 n_lt4 n_le2 n_le3
open Go.RowKit
attribute [local go_sem] Ext.cell Ext.frozen
theorem client_new {wl : List Wt} (h : wantsB wl = true) (hl : wl.length ≤ 12) : clientB 4 wl [] 0 = true := by
  unfold clientB gotsB
  simp [h, hl, lastAt]
theorem getD_snoc_lt {α : Type} [Inhabited α] (l : List α) (x : α) (i : Nat) (h : i < l.length) : (l ++ [x]).getD i default = l.getD i default := by
  simp [List.getD, List.getElem?_append_left h]
theorem getD_snoc_eq {α : Type} [Inhabited α] (l : List α) (x : α) : (l ++ [x]).getD l.length default = x := by simp [List.getD]
theorem lastAt_snoc (gl : List Gt) (g : Gt) (i : Nat) (h : i ≤ gl.length) : lastAt (gl ++ [g]) i = lastAt gl i := by
  unfold lastAt
  by_cases h0 : i = 0
  · rw [if_pos h0, if_pos h0]
  · rw [if_neg h0, if_neg h0, getD_snoc_lt _ _ _ (by omega)]
theorem lastAt_end (gl : List Gt) (g : Gt) : lastAt (gl ++ [g]) (gl.length + 1) = g.x := by
  unfold lastAt
  rw [if_neg (by omega), Nat.add_sub_cancel, getD_snoc_eq]
theorem clientB_parts {i0 t0 : Int} {wl : List Wt} {gl : List Gt} (h : clientB i0 wl gl t0 = true) : (i0 = 4 ∨ i0 = 5) ∧ wl.length ≤ 12 ∧ wantsB wl = true ∧ gl.length ≤ wl.length ∧ (∀ j, j < gl.length → gotAt wl gl j = true) ∧ t0 = lastAt gl gl.length := by
  unfold clientB gotsB at h
  simp only [Bool.and_eq_true, Bool.or_eq_true, decide_eq_true_eq, List.all_eq_true, List.mem_range] at h
  exact ⟨h.1, h.2.1, h.2.2.1, h.2.2.2.1, h.2.2.2.2.1, h.2.2.2.2.2⟩
theorem clientB_mk {i0 t0 : Int} {wl : List Wt} {gl : List Gt} (h1 : i0 = 4 ∨ i0 = 5) (h2 : wl.length ≤ 12) (h3 : wantsB wl = true) (h4 : gl.length ≤ wl.length) (h5 : ∀ j, j < gl.length → gotAt wl gl j = true) (h6 : t0 = lastAt gl gl.length) : clientB i0 wl gl t0 = true := by
  unfold clientB gotsB
  simp only [Bool.and_eq_true, Bool.or_eq_true, decide_eq_true_eq, List.all_eq_true, List.mem_range]
  exact ⟨h1, h2, h3, h4, h5, h6⟩
theorem clientB_snoc {i0 t0 : Int} {wl : List Wt} {gl : List Gt} {g : Gt} (h : clientB i0 wl gl t0 = true) (hne : gl.length ≠ wl.length) (hg : gotB (wl.getD gl.length default).k g.q g.x g.h g.v ((gl.length : Int) + 1) t0 = true) : clientB i0 wl (gl ++ [g]) g.x = true := by
  obtain ⟨h1, h2, h3, h4, h5, h6⟩ := clientB_parts h
  refine clientB_mk h1 h2 h3 (by simp; omega) (fun j hj => ?_) (by rw [List.length_append]; exact (lastAt_end gl g).symm)
  simp only [List.length_append, List.length_singleton] at hj
  unfold gotAt
  rw [lastAt_snoc _ _ _ (by omega)]
  by_cases hlt : j < gl.length
  · rw [getD_snoc_lt _ _ _ hlt]
    exact h5 j hlt
  · have he : j = gl.length := by omega
    subst he
    rw [getD_snoc_eq, ← h6]
    exact hg
theorem sends_ack {wl : List Wt} {gl : List Gt} {t0 x : Int} {k : Nat} (hb : clientB 4 wl gl t0 = true) (hk : gl.length = k) (hlt : k < wl.length) (h4 : ¬ (wl.getD k default).k = 4) (h0 : 0 ≤ t0) (hx : t0 < x) (hx2 : x ≤ 2000) :
    heardR 4 wl gl t0 (ackFit 4 wl gl t0 4 ((k : Int) + 1) x ((k : Int) + 1)) ⟨pendS wl gl, x, 0, 0⟩ = (4, wl, gl ++ [⟨(k : Int) + 1, x, 0, 0⟩], x) ∧ clientB 4 wl (gl ++ [⟨(k : Int) + 1, x, 0, 0⟩]) x = true := by
  have hle := clientB_le hb
  have hne : gl.length ≠ wl.length := by omega
  have hs : pendS wl gl = (k : Int) + 1 := by unfold pendS; rw [if_neg hne, hk]
  have hw : pendW wl gl = wl.getD k default := by unfold pendW; rw [if_neg hne, hk]
  have hf : ackFit 4 wl gl t0 4 ((k : Int) + 1) x ((k : Int) + 1) = true := by
    unfold ackFit ackB
    rw [hs, hw, if_neg (by omega)]
    simp only [Bool.and_eq_true, inB_iff, decide_eq_true_eq, true_and, and_true]
    omega
  refine ⟨by rw [heardR_yes hb hf, hs], clientB_snoc (g := ⟨(k : Int) + 1, x, 0, 0⟩) hb hne ?_⟩
  unfold gotB
  rw [if_neg (by rw [hk]; exact h4)]
  simp only [Bool.and_eq_true, inB_iff, decide_eq_true_eq, true_and, and_true]
  omega
/-- The results of the first m requests. -/
def gotsL (m : Nat) : List Gt := (List.range m).map fun (i : Nat) => ⟨(i : Int) + 1, (i : Int) + 1, 0, 0⟩
theorem gotsL_len (m : Nat) : (gotsL m).length = m := by simp [gotsL]
theorem gotsL_succ (m : Nat) : gotsL (m + 1) = gotsL m ++ [⟨(m : Int) + 1, (m : Int) + 1, 0, 0⟩] := by simp [gotsL, List.range_succ]
theorem gotsL_get (m i : Nat) (h : i < m) : (gotsL m).getD i default = ⟨(i : Int) + 1, (i : Int) + 1, 0, 0⟩ := by simp [gotsL, List.getD, h]
/-- Puts. -/
def putsB (wl : List Wt) : Prop := ∀ i, i < wl.length → ∃ a b : Int, wl.getD i default = ⟨1, 1, a, b, 0, 0, 0⟩ ∧ (0 ≤ a ∧ a ≤ 9) ∧ (0 ≤ b ∧ b ≤ 999)
theorem putsB.wants {wl : List Wt} (h : putsB wl) : wantsB wl = true := by
  unfold wantsB
  simp only [List.all_eq_true, List.mem_range]
  intro i hi
  obtain ⟨a, b, e, ha, hb⟩ := h i hi
  rw [e]
  unfold wantOkB wantB opB
  simp only [inB_iff, Bool.and_eq_true, decide_eq_true_eq, true_or, if_true]
  simp
  omega
theorem gots_client {wl : List Wt} (h : putsB wl) (hl : wl.length ≤ 12) : ∀ m, m ≤ wl.length → clientB 4 wl (gotsL m) (m : Int) = true
  | 0, _ => client_new h.wants hl
  | m + 1, hm => by
    have h1 := gots_client h hl m (by omega)
    obtain ⟨a, b, e, _, _⟩ := h m (by omega)
    rw [gotsL_succ]
    have h2 := clientB_snoc (g := ⟨(m : Int) + 1, (m : Int) + 1, 0, 0⟩) h1 (by rw [gotsL_len]; omega) (by
      rw [gotsL_len, e]
      unfold gotB
      simp only [Bool.and_eq_true, inB_iff, decide_eq_true_eq]
      simp
      omega)
    rw [show ((m + 1 : Nat) : Int) = (m : Int) + 1 by omega]
    exact h2
def RetGot (w : World) (N k : Nat) (wl : List Wt) (e : Ending) (w' : World) : Prop :=
  ∃ A' c' B' d', e = .returned (.agg #[.int .i64 4, .slice A' N c', .slice B' k d', .int .i64 (k : Nat)]) ∧ On (Rg w.heap.size w'.heap.size) (fun x => Sl x 7 A' N (WT wl) ∧ Sl x 4 B' k (GT (gotsL k))) w' ∧ Below w.heap.size w w'
theorem heardAck_new (A : Option Addr) (N c : Nat) (B : Option Addr) (k d : Nat) (wl : List Wt) (w : World) (hP : Sl w 7 A N (WT wl)) (hQ : Sl w 4 B k (GT (gotsL k))) (hl : wl.length = N) (hb : putsB wl) (hN : N ≤ 12) (hlt : k < N) :
    Calls Tryz.prog 16 #[.agg #[.int .i64 4, .slice A N c, .slice B k d, .int .i64 (k : Nat)], .agg #[.int .i64 4, .int .i64 ((k : Int) + 1), .int .i64 ((k : Int) + 1), .int .i64 ((k : Int) + 1)]] w (RetGot w N (k + 1) wl) := by
  have hc := gots_client hb (by omega) k (by omega)
  obtain ⟨a, b, e, _, _⟩ := hb k (by omega)
  have h := heardAck_any A N c B k d 4 (k : Int) wl (gotsL k) 4 ((k : Int) + 1) ((k : Int) + 1) ((k : Int) + 1) w hP hQ hl (gotsL_len k) (by unfold maxLen; omega) (by unfold maxLen; omega)
  obtain ⟨hR, _⟩ := sends_ack (x := (k : Int) + 1) hc (gotsL_len k) (by omega) (by rw [e]; simp) (by omega) (by omega) (by omega)
  rw [hR] at h
  refine h.mono ?_
  rintro e w' ⟨A', c', B', d', rfl, P, Q, _, hbl⟩
  subst hl
  rw [← gotsL_succ, gotsL_len] at Q ⊢
  exact ⟨A', c', B', d', rfl, ((Row.on P).map (fun v hv => Row.sl hv)).and ((Row.on Q).map (fun v hv => Row.sl hv)), hbl⟩
theorem heardAck_old (A : Option Addr) (N c : Nat) (B : Option Addr) (k d : Nat) (wl : List Wt) (w : World) (hP : Sl w 7 A N (WT wl)) (hQ : Sl w 4 B k (GT (gotsL k))) (hl : wl.length = N) (hb : putsB wl) (hN : N ≤ 12) (hlt : k ≤ N) (hk : 0 < k) :
    Calls Tryz.prog 16 #[.agg #[.int .i64 4, .slice A N c, .slice B k d, .int .i64 (k : Nat)], .agg #[.int .i64 4, .int .i64 (k : Nat), .int .i64 (k : Nat), .int .i64 (k : Nat)]] w (RetGot w N k wl) := by
  have hc := gots_client hb (by omega) k (by omega)
  have h := heardAck_any A N c B k d 4 (k : Int) wl (gotsL k) 4 (k : Nat) (k : Nat) (k : Nat) w hP hQ hl (gotsL_len k) (by unfold maxLen; omega) (by unfold maxLen; omega)
  have hf : ackFit 4 wl (gotsL k) (k : Int) 4 (k : Nat) (k : Nat) (k : Nat) = false := by
    unfold ackFit
    have : decide (pendS wl (gotsL k) = ((k : Nat) : Int)) = false := by
      apply decide_eq_false
      unfold pendS
      rw [gotsL_len]
      split <;> omega
    rw [this]
    simp
  rw [heardR_no hc hf] at h
  refine h.mono ?_
  rintro e w' ⟨A', c', B', d', rfl, P, Q, _, hbl⟩
  subst hl
  simp only [gotsL_len] at Q ⊢
  exact ⟨A', c', B', d', rfl, ((Row.on P).map (fun v hv => Row.sl hv)).and ((Row.on Q).map (fun v hv => Row.sl hv)), hbl⟩
/-- What SendOf hands back at one message. -/
def RetMsg (w : World) (f t : Int) (n : Nat) (z : List Int) (e : Ending) (w' : World) : Prop :=
  ∃ g r rc cs, e = .returned (.slice (some ⟨g, 0, none⟩) 1 cs) ∧ w.heap.size ≤ g ∧ w.heap.size ≤ r ∧ n ≤ rc ∧ rc ≤ maxLen ∧ Blk w' g 61 #[.int .i64 f, .int .i64 t, .slice (some ⟨r, 0, none⟩) n rc] ∧ Row w' w.heap.size 2 1 (some ⟨r, 0, none⟩) n rc z ∧ Below w.heap.size w w'
theorem send_one (A : Option Addr) (N c : Nat) (B : Option Addr) (k d : Nat) (t0 : Int) (wl : List Wt) (gl : List Gt) (w : World) (hP : Sl w 7 A N (WT wl)) (hQ : Sl w 4 B k (GT gl)) (hl : wl.length = N) (hr : gl.length = k) (hn : N ≤ maxLen) (hm : k ≤ maxLen) (f t : Int) (z : List Int) (n : Nat) (hs : sendL 4 t0 wl gl = [⟨f, t, z⟩]) (hz : z.length = n) (hn0 : 0 < n) :
    Calls Tryz.prog 9 #[.agg #[.int .i64 4, .slice A N c, .slice B k d, .int .i64 t0]] w (RetMsg w f t n z) := by
  have h := sendOf_any A N c B k d 4 t0 wl gl w hP hQ hl hr hn hm
  rw [hs] at h
  refine h.mono ?_
  rintro e w' ⟨As, cs, rfl, -, M, hb⟩
  obtain ⟨hhi, hM | ⟨g, R, rc, m, hm1, hA, hg, hg2, K, RR, _⟩⟩ := M
  · cases hM
  · injection hm1 with hm1 _
    subst hm1 hA hz
    obtain ⟨r, cs2, hR, hr2, _, hnc, hcm, _, _⟩ := RR.blk hn0
    subst hR
    exact ⟨g, r, rc, cs, rfl, hg, hr2, hnc, hcm, K, RR, hb⟩
theorem send_none (A : Option Addr) (N c : Nat) (B : Option Addr) (k d : Nat) (t0 : Int) (wl : List Wt) (gl : List Gt) (w : World) (hP : Sl w 7 A N (WT wl)) (hQ : Sl w 4 B k (GT gl)) (hl : wl.length = N) (hr : gl.length = k) (hn : N ≤ maxLen) (hm : k ≤ maxLen) (hs : sendL 4 t0 wl gl = []) :
    Calls Tryz.prog 9 #[.agg #[.int .i64 4, .slice A N c, .slice B k d, .int .i64 t0]] w fun e w' => (∃ A' c', e = .returned (.slice A' 0 c')) ∧ Below w.heap.size w w' := by
  have h := sendOf_any A N c B k d 4 t0 wl gl w hP hQ hl hr hn hm
  rw [hs] at h
  refine h.mono ?_
  rintro e w' ⟨As, cs, rfl, -, _, hb⟩
  exact ⟨⟨As, cs, rfl⟩, hb⟩
theorem want_at {w : World} {b off n : Nat} {wl : List Wt} (h : Sl w 7 (some ⟨b, off, none⟩) n (WT wl)) {i : Nat} (hi : i < n) : b < w.heap.size ∧ w.cell? ⟨b, off + i * 7, none⟩ = some (.int .i64 (wl.getD i default).k) ∧ w.cell? ⟨b, off + i * 7 + 1, none⟩ = some (.int .i64 (wl.getD i default).o) ∧ w.cell? ⟨b, off + i * 7 + 2, none⟩ = some (.int .i64 (wl.getD i default).a) ∧ w.cell? ⟨b, off + i * 7 + 3, none⟩ = some (.int .i64 (wl.getD i default).b) ∧ w.cell? ⟨b, off + i * 7 + 4, none⟩ = some (.int .i64 (wl.getD i default).c) ∧ w.cell? ⟨b, off + i * 7 + 5, none⟩ = some (.int .i64 (wl.getD i default).d) ∧ w.cell? ⟨b, off + i * 7 + 6, none⟩ = some (.int .i64 (wl.getD i default).y) := by
  obtain ⟨b', o', hA, hb, hc⟩ := sl_wants h (by omega)
  injection hA with hA
  injection hA with h1 h2
  subst h1 h2
  exact ⟨hb, hc i hi⟩
theorem op_neq (x0 x1 x2 x3 x4 : Int) (w : World) : (binOp .neq 30 (.agg #[.int .i64 x0, .int .i64 x1, .int .i64 x2, .int .i64 x3, .int .i64 x4]) (.agg #[.int .i64 x0, .int .i64 x1, .int .i64 x2, .int .i64 x3, .int .i64 x4])).run Tryz.prog w = .ok (.bool false) w := by
  have hS : Tryz.prog.underlying 30 = some (.struct (Tryz.prog.fieldsOf 30)) := by kernel_rfl
  have hp : Tryz.prog.stoodInHeld 30 = false := by kernel_rfl
  rw [run_neq_struct, show (10000 : Nat) = 9999 + 1 from rfl, run_equalIn_agg w 9999 30 _ _ hS hp]
  simp only [Program.fieldsOf, Tryz.underlying30]
  clear hS hp
  go_simp
end Go.Proofs.YtbheflinchabgaaGreatDoor
namespace Go.Proofs.YtbheflinchabgaaGreatDoor
set_option linter.unusedSimpArgs false
set_option linter.unusedVariables false
attribute [local go_sem] n_lt2 n_lt3 n_lt4 n_le2 n_le3
open Go.RowKit
attribute [local go_sem] Ext.cell Ext.frozen
/-- A slice of writes. -/
def SlW (w : World) (A : Option Addr) (n : Nat) (ws : List (Int × List Int)) : Prop := ∃ vs, SlV w 2 A n vs ∧ ws.length = n ∧ ∀ j, j < n → vs[2 * j]? = some (.int .i64 (ws.getD j (0, [])).1) ∧ ∃ v, vs[2 * j + 1]? = some v ∧ Rw w v (ws.getD j (0, [])).2
theorem SlW.below {w w' : World} {A : Option Addr} {n : Nat} {ws : List (Int × List Int)} (h : SlW w A n ws) (hb : Below w.heap.size w w') : SlW w' A n ws := by
  obtain ⟨vs, h1, h2, h3⟩ := h
  refine ⟨vs, h1.below hb, h2, fun j hj => ?_⟩
  obtain ⟨ha, v, hv, hR⟩ := h3 j hj
  exact ⟨ha, v, hv, hR.below hb⟩
theorem SlW.at_ {w : World} {A : Option Addr} {n : Nat} {ws : List (Int × List Int)} (h : SlW w A n ws) {j : Nat} (hj : j < n) : ∃ b off v, A = some ⟨b, off, none⟩ ∧ b < w.heap.size ∧ w.cell? ⟨b, off + j * 2, none⟩ = some (.int .i64 (ws.getD j (0, [])).1) ∧ w.cell? ⟨b, off + j * 2 + 1, none⟩ = some v ∧ Rw w v (ws.getD j (0, [])).2 := by
  obtain ⟨vs, h1, h2, h3⟩ := h
  obtain ⟨b, off, hA, hb, hc⟩ := h1.at_ (by omega)
  obtain ⟨ha, v, hv, hR⟩ := h3 j hj
  exact ⟨b, off, v, hA, hb, (by rw [show off + j * 2 = off + (2 * j) by omega, hc (2 * j) (by omega)]; exact ha), (by rw [show off + j * 2 + 1 = off + (2 * j + 1) by omega, hc (2 * j + 1) (by omega)]; exact hv), hR⟩
/-- A row that may lie on a disk. -/
def rowL (zs : List Int) : Prop := zs.length ≤ 48 ∧ numsL zs
/-- Rows and writes of a valid disk of so many sectors. -/
def rowsL (rows : List (List Int)) : Prop := ∀ r ∈ rows, rowL r
def waitL (n : Nat) (ws : List (Int × List Int)) : Prop := ∀ x ∈ ws, (0 ≤ x.1 ∧ x.1 < n) ∧ rowL x.2
set_option maxHeartbeats 1000000 in
theorem sectorOk_yes (K W : Option Addr) (nk ck nw cw : Nat) (at_ : Int) (w : World) (h : 0 ≤ at_ ∧ at_ < nk) (hn : nk ≤ 40) :
    Calls Tryz.prog 127 #[.agg #[.slice K nk ck, .slice W nw cw], .int .i64 at_] w fun e w' => e = .returned (.bool true) ∧ Below w.heap.size w w' := by
  go_enter Tryz.func127, Tryz.ntmps127
  go_wp2_with fail
  have cb := between_any at_ 0 ((nk : Int) - 1) (w.alloc (.cells #[.slice K nk ck, .slice W nw cw] 40))
  rw [show inB at_ 0 ((nk : Int) - 1) = true from (inB_iff _ _ _).2 (by omega)] at cb
  refine cb.mono ?_
  rintro e w' ⟨rfl, rfl⟩
  go_wp2
  go_ret
  exact ⟨rfl, by (repeat' (first | (with_reducible exact Below.refl _ _) | (with_reducible assumption) | (with_reducible refine Below.alloc ?_ ?_ _) | (with_reducible refine Below.drew ?_) | (with_reducible refine Below.setCell ?_ ?_ _) | (with_reducible refine bstep (by assumption) ?_ ?_) | (with_reducible exact Nat.le_refl _) | omega | (simp [*]; done) | (simp [*]; omega)))⟩
set_option maxRecDepth 100000 in
set_option maxHeartbeats 4000000 in
theorem diskOk_yes (K W : Option Addr) (nk ck nw cw : Nat) (rows : List (List Int)) (ws : List (Int × List Int)) (w : World) (hK : SlR w K nk rows) (hW : SlW w W nw ws) (hn : 1 ≤ nk ∧ nk ≤ 40) (hw : nw ≤ 60) (hr : rowsL rows) (hx : waitL nk ws) :
    Calls Tryz.prog 120 #[.agg #[.slice K nk ck, .slice W nw cw]] w fun e w' => e = .returned (.bool true) ∧ Below w.heap.size w w' := by
  have HK := Lib.hid hK
  have HW := Lib.hid hW
  have HR := Lib.hid hr
  have HX := Lib.hid hx
  have hkl := hK.len
  clear hK hW hr hx
  have a1 : ¬ (nk : Int) < 1 := by omega
  have a2 : ¬ (40 : Int) < (nk : Int) := by omega
  have a3 : ¬ (60 : Int) < (nw : Int) := by omega
  go_enter Tryz.func120, Tryz.ntmps120
  go_wp2_with fail
  obtain ⟨v0, hv0⟩ : ∃ x : World, x = (w.alloc (.cells #[.slice K nk ck, .slice W nw cw] 40)) := ⟨_, rfl⟩
  rw [← hv0]
  obtain ⟨g, hg⟩ : ∃ g, g = w.heap.size := ⟨_, rfl⟩
  have b0 : Below w.heap.size w v0 := by rw [hv0]; exact (Below.refl _ _).alloc (Nat.le_refl _) _
  have K0 : Hid (Blk v0 g 40 #[.slice K nk ck, .slice W nw cw]) := by rw [hv0, hg]; exact Lib.hid (Blk.new_at _ _ _ _ rfl)
  have HK0 := Lib.hid (HK.out.below b0)
  have HW0 := Lib.hid (HW.out.below b0)
  have B0 := Lib.hid b0
  try rw [← hg]
  clear hv0 b0 HK HW hg
  go_loopw [26] (fun iv wr => ∃ k : Nat, k ≤ nk ∧ iv = .int .i64 k ∧ v0 = wr) (fun iv _ => nk - (intOf iv).toNat)
  case atStart => exact ⟨0, Nat.zero_le _, rfl, rfl⟩
  case round =>
    obtain ⟨k, hk, rfl, rfl⟩ := hrel
    by_cases hlt : k < nk
    · obtain ⟨b, off, v, rfl, hb, hc, hv⟩ := HK0.out.at_ hlt
      obtain ⟨Ax, cx, rfl, hSx, -, -, -, -⟩ := hv
      have hok : rowL (rows.getD k []) := by
        have e : rows.getD k [] = rows[k] := by simp [List.getD, show k < rows.length by omega]
        rw [e]
        exact HR.out _ (List.getElem_mem _)
      have c1 := rowOk_yes Ax _ cx (rows.getD k []) v0 hSx hok.1 (numsB_of hok.2)
      generalize (rows.getD k []).length = m at hc c1
      clear hSx hok
      have hlt' : (k : Int) < (nk : Int) := by omega
      go_wp2_with fail
      refine c1.mono ?_
      rintro e w2 ⟨rfl, rfl⟩
      go_wp2
      exact ⟨⟨k + 1, by omega, by go_num, by first | rfl | trivial⟩, by simp [intOf]; omega⟩
    · have hkn : k = nk := by omega
      subst hkn
      have q1 : v0.cell? ⟨g, 1, none⟩ = some (.slice W nw cw) := K0.out.cell 1
      have lq := K0.out.lt
      go_wp2_with fail
      clear q1 lq
      go_loopw [37] (fun iv wr => ∃ j : Nat, j ≤ nw ∧ iv = .int .i64 j ∧ Hid (Below v0.heap.size v0 wr)) (fun iv _ => nw - (intOf iv).toNat)
      case atStart => exact ⟨0, Nat.zero_le _, rfl, Lib.hid (Below.refl _ _)⟩
      case round =>
        obtain ⟨j, hj, rfl, HB⟩ := hrel
        by_cases hlt2 : j < nw
        · obtain ⟨b, off, v, rfl, hb, hc0, hc1, hv⟩ := (HW0.out.below HB.out).at_ hlt2
          obtain ⟨Ax, cx, rfl, hSx, -, -, -, -⟩ := hv
          have hok : (0 ≤ (ws.getD j (0, [])).1 ∧ (ws.getD j (0, [])).1 < k) ∧ rowL (ws.getD j (0, [])).2 := by
            obtain ⟨vs, _, h2, _⟩ := HW0.out
            have e : ws.getD j (0, []) = ws[j] := by simp [List.getD, show j < ws.length by omega]
            rw [e]
            exact HX.out _ (List.getElem_mem _)
          generalize ws.getD j (0, []) = x at hc0 hc1 hSx hok
          obtain ⟨at_, zs⟩ := x
          simp only at hc0 hc1 hSx hok
          have hlt' : (j : Int) < (nw : Int) := by omega
          have KB := K0.out.below HB.out
          have q0 : wr.cell? ⟨g, 0, none⟩ = some (.slice K k ck) := KB.cell 0
          have q1 : wr.cell? ⟨g, 1, none⟩ = some (.slice (some ⟨b, off, none⟩) nw cw) := KB.cell 1
          have lq := KB.lt
          go_wp2_with fail
          refine calls_named ?_
          rintro v1 hv1
          obtain ⟨g6, hg6⟩ : ∃ q, q = wr.heap.size := ⟨_, rfl⟩
          have b1 : Below wr.heap.size wr v1 := by rw [hv1]; exact (Below.refl _ _).alloc (Nat.le_refl _) _
          have K6 : Hid (Blk v1 g6 216 #[.int .i64 at_, .slice Ax zs.length cx]) := by rw [hv1]; exact Lib.hid (Blk.new_at _ _ _ _ hg6)
          have hS1 := Lib.hid (hSx.below b1)
          have HB1 := Lib.hid (HB.out.trans (b1.mono HB.out.size))
          try rw [← hg6]
          clear hv1 hg6 b1 hc0 hc1 hSx KB q0 q1 lq HB
          refine (sectorOk_yes K (some ⟨b, off, none⟩) k ck nw cw at_ v1 hok.1 (by omega)).mono ?_
          rintro e v2 ⟨rfl, b2⟩
          have HB2 := Lib.hid (HB1.out.trans (b2.mono HB1.out.size))
          have hS2 := Lib.hid (hS1.out.below b2)
          have K2 := Lib.hid (K6.out.below b2)
          clear b2 HB1 hS1 K6
          have r1 : v2.cell? ⟨g6, 1, none⟩ = some (.slice Ax zs.length cx) := K2.out.cell 1
          have lr := K2.out.lt
          have c1 := rowOk_yes Ax _ cx zs v2 hS2.out hok.2.1 (numsB_of hok.2.2)
          go_wp2_with fail
          refine c1.mono ?_
          rintro e v3 ⟨rfl, rfl⟩
          go_wp2
          exact ⟨⟨j + 1, by omega, by go_num, HB2⟩, by simp [intOf]; omega⟩
        · have hjn : j = nw := by omega
          subst hjn
          go_wp2
          go_ret
          exact ⟨rfl, B0.out.trans (HB.out.mono B0.out.size)⟩
end Go.Proofs.YtbheflinchabgaaGreatDoor
namespace Go.Proofs.YtbheflinchabgaaGreatDoor
set_option linter.unusedSimpArgs false
set_option linter.unusedVariables false
attribute [local go_sem] n_lt2 n_lt3 n_lt4 n_le2 n_le3
open Go.RowKit
attribute [local go_sem] Ext.cell Ext.frozen
/-- A valid disk of n sectors: its rows and its waiting writes. -/
structure Dk (w : World) (K : Option Addr) (n : Nat) (W : Option Addr) (m : Nat) (rows : List (List Int)) (ws : List (Int × List Int)) : Prop where
  k : SlR w K n rows
  wt : SlW w W m ws
  hn : 1 ≤ n ∧ n ≤ 40
  hm : m ≤ 60
  r : rowsL rows
  x : waitL n ws
theorem Dk.below {w w' : World} {K W : Option Addr} {n m : Nat} {rows : List (List Int)} {ws : List (Int × List Int)} (h : Dk w K n W m rows ws) (hb : Below w.heap.size w w') : Dk w' K n W m rows ws := ⟨h.k.below hb, h.wt.below hb, h.hn, h.hm, h.r, h.x⟩
theorem Dk.ok {w : World} {K W : Option Addr} {n m c d : Nat} {rows : List (List Int)} {ws : List (Int × List Int)} (h : Dk w K n W m rows ws) : Calls Tryz.prog 120 #[.agg #[.slice K n c, .slice W m d]] w fun e w' => e = .returned (.bool true) ∧ Below w.heap.size w w' := diskOk_yes K W n c m d rows ws w h.k h.wt h.hn h.hm h.r h.x
set_option maxHeartbeats 2000000 in
theorem twoOk_yes (KA WA KB WB : Option Addr) (n c m d c2 m2 d2 : Nat) (ra rb : List (List Int)) (wa wb : List (Int × List Int)) (w : World) (hA : Dk w KA n WA m ra wa) (hB : Dk w KB n WB m2 rb wb) :
    Calls Tryz.prog 88 #[.agg #[.slice KA n c, .slice WA m d, .slice KB n c2, .slice WB m2 d2]] w fun e w' => e = .returned (.bool true) ∧ Below w.heap.size w w' := by
  have HA := Lib.hid hA
  have HB := Lib.hid hB
  clear hA hB
  go_enter Tryz.func88, Tryz.ntmps88
  go_wp2_with fail
  refine calls_named ?_
  rintro v0 hv0
  obtain ⟨g, hg⟩ : ∃ q, q = w.heap.size := ⟨_, rfl⟩
  have b0 : Below w.heap.size w v0 := by rw [hv0]; exact (Below.refl _ _).alloc (Nat.le_refl _) _
  have K0 : Hid (Blk v0 g 42 #[.slice KA n c, .slice WA m d, .slice KB n c2, .slice WB m2 d2]) := by rw [hv0, hg]; exact Lib.hid (Blk.new_at _ _ _ _ rfl)
  have HA0 := Lib.hid (HA.out.below b0)
  have HB0 := Lib.hid (HB.out.below b0)
  have B0 := Lib.hid b0
  try rw [← hg]
  clear hv0 b0 HA HB hg
  refine HA0.out.ok.mono ?_
  rintro e v1 ⟨rfl, b1⟩
  have K1 := Lib.hid (K0.out.below b1)
  have HB1 := Lib.hid (HB0.out.below b1)
  have B1 := Lib.hid (B0.out.trans (b1.mono B0.out.size))
  clear b1 K0 HA0 HB0 B0
  have q2 : v1.cell? ⟨g, 2, none⟩ = some (.slice KB n c2) := K1.out.cell 2
  have q3 : v1.cell? ⟨g, 3, none⟩ = some (.slice WB m2 d2) := K1.out.cell 3
  have lq := K1.out.lt
  go_wp2_with fail
  refine HB1.out.ok.mono ?_
  rintro e v2 ⟨rfl, b2⟩
  clear q2 q3 lq
  have K2 := Lib.hid (K1.out.below b2)
  have B2 := Lib.hid (B1.out.trans (b2.mono B1.out.size))
  clear b2 K1 HB1 B1
  have q0 : v2.cell? ⟨g, 0, none⟩ = some (.slice KA n c) := K2.out.cell 0
  have q2 : v2.cell? ⟨g, 2, none⟩ = some (.slice KB n c2) := K2.out.cell 2
  have lq := K2.out.lt
  go_wp2
  go_ret
  exact ⟨rfl, B2.out⟩
set_option maxHeartbeats 2000000 in
theorem keptOk_yes (KA WA KB WB : Option Addr) (c m d c2 m2 d2 : Nat) (ra rb : List (List Int)) (wa wb : List (Int × List Int)) (w : World) (hA : Dk w KA 22 WA m ra wa) (hB : Dk w KB 22 WB m2 rb wb) :
    Calls Tryz.prog 55 #[.agg #[.slice KA 22 c, .slice WA m d, .slice KB 22 c2, .slice WB m2 d2]] w fun e w' => e = .returned (.bool true) ∧ Below w.heap.size w w' := by
  have HA := Lib.hid hA
  have HB := Lib.hid hB
  clear hA hB
  go_enter Tryz.func55, Tryz.ntmps55
  go_wp2_with fail
  refine calls_named ?_
  rintro v0 hv0
  obtain ⟨g, hg⟩ : ∃ q, q = w.heap.size := ⟨_, rfl⟩
  have b0 : Below w.heap.size w v0 := by rw [hv0]; exact (Below.refl _ _).alloc (Nat.le_refl _) _
  have K0 : Hid (Blk v0 g 42 #[.slice KA 22 c, .slice WA m d, .slice KB 22 c2, .slice WB m2 d2]) := by rw [hv0, hg]; exact Lib.hid (Blk.new_at _ _ _ _ rfl)
  have B0 := Lib.hid b0
  have c1 := twoOk_yes KA WA KB WB 22 c m d c2 m2 d2 ra rb wa wb v0 (HA.out.below b0) (HB.out.below b0)
  try rw [← hg]
  clear hv0 b0 HA HB hg
  refine c1.mono ?_
  rintro e v1 ⟨rfl, b1⟩
  clear c1
  have K1 := Lib.hid (K0.out.below b1)
  have B1 := Lib.hid (B0.out.trans (b1.mono B0.out.size))
  clear b1 K0 B0
  have q0 : v1.cell? ⟨g, 0, none⟩ = some (.slice KA 22 c) := K1.out.cell 0
  have lq := K1.out.lt
  go_wp2
  go_ret
  exact ⟨rfl, B1.out⟩
set_option maxHeartbeats 1000000 in
theorem disks_any (k0 k1 k2 k3 : Option Addr) (n0 n1 n2 n3 c0 c1 c2 c3 : Nat) (w : World) :
    Calls Tryz.prog 89 #[.agg #[.slice k0 n0 c0, .slice k1 n1 c1, .slice k2 n2 c2, .slice k3 n3 c3]] w fun e w' => e = .returned (.agg #[.slice k0 n0 c0, .slice k1 n1 c1, .slice k2 n2 c2, .slice k3 n3 c3]) ∧ Below w.heap.size w w' := by
  go_enter Tryz.func89, Tryz.ntmps89
  go_wp21
  refine bodyPost_ret (v := .agg #[.slice k0 n0 c0, .slice k1 n1 c1, .slice k2 n2 c2, .slice k3 n3 c3]) (by simp [results, Tryz.results89, go_sem, *]) rfl ?_
  exact ⟨rfl, by (repeat' (first | (with_reducible exact Below.refl _ _) | (with_reducible assumption) | (with_reducible refine Below.alloc ?_ ?_ _) | (with_reducible refine Below.drew ?_) | (with_reducible refine Below.setCell ?_ ?_ _) | (with_reducible refine bstep (by assumption) ?_ ?_) | (with_reducible exact Nat.le_refl _) | omega | (simp [*]; done) | (simp [*]; omega)))⟩
set_option maxHeartbeats 1000000 in
theorem twoOf_any (k0 k1 k2 k3 : Option Addr) (n0 n1 n2 n3 c0 c1 c2 c3 : Nat) (w : World) :
    Calls Tryz.prog 91 #[.agg #[.slice k0 n0 c0, .slice k1 n1 c1, .slice k2 n2 c2, .slice k3 n3 c3]] w fun e w' => e = .returned (.agg #[.slice k0 n0 c0, .slice k1 n1 c1, .slice k2 n2 c2, .slice k3 n3 c3]) ∧ Below w.heap.size w w' := by
  go_enter Tryz.func91, Tryz.ntmps91
  go_wp21
  refine bodyPost_ret (v := .agg #[.slice k0 n0 c0, .slice k1 n1 c1, .slice k2 n2 c2, .slice k3 n3 c3]) (by simp [results, Tryz.results91, go_sem, *]) rfl ?_
  exact ⟨rfl, by (repeat' (first | (with_reducible exact Below.refl _ _) | (with_reducible assumption) | (with_reducible refine Below.alloc ?_ ?_ _) | (with_reducible refine Below.drew ?_) | (with_reducible refine Below.setCell ?_ ?_ _) | (with_reducible refine bstep (by assumption) ?_ ?_) | (with_reducible exact Nat.le_refl _) | omega | (simp [*]; done) | (simp [*]; omega)))⟩
end Go.Proofs.YtbheflinchabgaaGreatDoor
namespace Go.Proofs.YtbheflinchabgaaGreatDoor
set_option linter.unusedSimpArgs false
set_option linter.unusedVariables false
attribute [local go_sem] n_lt2 n_lt3 n_lt4 n_le2 n_le3
open Go.RowKit
attribute [local go_sem] Ext.cell Ext.frozen
set_option maxHeartbeats 2000000 in
theorem readAt_kept (K W : Option Addr) (n c d : Nat) (at_ : Nat) (rows : List (List Int)) (w : World) (h : Dk w K n W 0 rows []) (ha : at_ < n) :
    Calls Tryz.prog 128 #[.agg #[.slice K n c, .slice W 0 d], .int .i64 (at_ : Nat)] w (RetRowB w 2 1 (rows.getD at_ []).length (rows.getD at_ []) true) := by
  have H := Lib.hid h
  have hn := h.hn
  have hrl := h.k.len
  obtain ⟨zs, hzs⟩ : ∃ z, rows.getD at_ [] = z := ⟨_, rfl⟩
  rw [hzs]
  have HZ := Lib.hid hzs
  clear h hzs
  go_enter Tryz.func128, Tryz.ntmps128
  go_wp2_with fail
  refine calls_named ?_
  rintro v0 hv0
  obtain ⟨g, hg⟩ : ∃ q, q = w.heap.size := ⟨_, rfl⟩
  have b0 : Below w.heap.size w v0 := by rw [hv0]; exact (Below.refl _ _).alloc (Nat.le_refl _) _
  have K0 : Hid (Blk v0 g 40 #[.slice K n c, .slice W 0 d]) := by rw [hv0, hg]; exact Lib.hid (Blk.new_at _ _ _ _ rfl)
  have H0 := Lib.hid (H.out.below b0)
  have B0 := Lib.hid b0
  try rw [← hg]
  clear hv0 b0 H hg
  refine H0.out.ok.mono ?_
  rintro e v1 ⟨rfl, b1⟩
  have K1 := Lib.hid (K0.out.below b1)
  have H1 := Lib.hid (H0.out.below b1)
  have B1 := Lib.hid (B0.out.trans (b1.mono B0.out.size))
  clear b1 K0 H0 B0
  have q0 : v1.cell? ⟨g, 0, none⟩ = some (.slice K n c) := K1.out.cell 0
  have q1 : v1.cell? ⟨g, 1, none⟩ = some (.slice W 0 d) := K1.out.cell 1
  have lq := K1.out.lt
  go_wp2_with fail
  refine (sectorOk_yes K W n c 0 d (at_ : Nat) v1 (by omega) hn.2).mono ?_
  rintro e v2 ⟨rfl, b2⟩
  clear q0 q1 lq
  have K2 := Lib.hid (K1.out.below b2)
  have H2 := Lib.hid (H1.out.below b2)
  have B2 := Lib.hid (B1.out.trans (b2.mono B1.out.size))
  clear b2 K1 H1 B1
  obtain ⟨b, off, v, rfl, hb, hc, hv⟩ := H2.out.k.at_ ha
  obtain ⟨Ax, cx, rfl, hSx, hx1, hx2, hx3, -⟩ := hv
  have hok : rowL (rows.getD at_ []) := by
    have e : rows.getD at_ [] = rows[at_] := by simp [List.getD, show at_ < rows.length by omega]
    rw [e]
    exact H2.out.r _ (List.getElem_mem _)
  have q0 : v2.cell? ⟨g, 0, none⟩ = some (.slice (some ⟨b, off, none⟩) n c) := K2.out.cell 0
  have q1 : v2.cell? ⟨g, 1, none⟩ = some (.slice W 0 d) := K2.out.cell 1
  have lq := K2.out.lt
  rw [HZ.out] at hc hSx hx1 hx3 hok
  have c1 := copyRow_any Ax _ cx zs v2 hSx (by have := hok.1; omega) hx3
  clear hSx hx1 hx2 hx3
  have ha2 : (at_ : Int) < (n : Int) := by omega
  go_wp2_with fail
  go_loopw [6] (fun iv wr => iv = .int .i64 (-1) ∧ v2 = wr) (fun _ _ => 0)
  case atStart => exact ⟨rfl, rfl⟩
  case round =>
    obtain ⟨rfl, rfl⟩ := hrel
    go_wp2_with fail
    refine c1.mono ?_
    rintro e v3 ⟨A3, c3, rfl, R3, b3⟩
    have z2 := B2.out.size
    go_wp2
    refine bodyPost_ret (v := .tuple #[.slice A3 zs.length c3, .bool true]) (by simp [results, Tryz.results128, go_sem, *]) rfl ?_
    exact ⟨A3, c3, rfl, R3.mono z2, B2.out.trans (b3.mono z2)⟩
end Go.Proofs.YtbheflinchabgaaGreatDoor
namespace Go.Proofs.YtbheflinchabgaaGreatDoor
set_option linter.unusedSimpArgs false
set_option linter.unusedVariables false
attribute [local go_sem] n_lt2 n_lt3 n_lt4 n_le2 n_le3
open Go.RowKit
attribute [local go_sem] Ext.cell Ext.frozen
theorem tb_dr1 {v w' : World} (h : Below v.drew.heap.size v.drew w') : Below v.heap.size v w' := ⟨h.os, h.tape, h.output, h.size, h.block⟩
/-- What Unsummed hands back. -/
def RetUns (w : World) (E : Nat) (r : Option (List Int)) (e : Ending) (w' : World) : Prop := ∃ A c, e = .returned (.tuple #[.slice A (r.getD []).length c, .bool r.isSome]) ∧ Row w' w.heap.size E 1 A (r.getD []).length c (r.getD []) ∧ Below w.heap.size w w'
theorem unsumL_at {zs : List Int} {n : Nat} (h : zs.length = n + 1) : unsumL zs = if sumL (zs.take n) = zs.getD n 0 then some (zs.take n) else none := by
  have h0 : zs ≠ [] := fun e => by rw [e] at h; simp at h
  unfold unsumL
  rw [if_neg h0, List.dropLast_eq_take, h, Nat.add_sub_cancel]
  have e : zs.getLastD 0 = zs.getD n 0 := by
    rw [List.getLastD_eq_getLast?, List.getLast?_eq_getElem?, h]
    simp [List.getD]
  rw [e]
set_option maxHeartbeats 2000000 in
theorem unsummed_any (A : Option Addr) (n cap : Nat) (zs : List Int) (w : World) (hS : Sl w 1 A n zs) (hc : n ≤ cap) (hr : rowL zs) :
    Calls Tryz.prog 129 #[.slice A n cap] w (RetUns w 2 (unsumL zs)) := by
  have hl : zs.length = n := by have := hS.len; omega
  rcases Nat.eq_zero_or_pos n with hn | hn
  · subst hn
    have hz : zs = [] := List.eq_nil_of_length_eq_zero hl
    subst hz
    clear hS hr hl
    go_enter Tryz.func129, Tryz.ntmps129
    go_wp2
    refine bodyPost_ret (v := .tuple #[.slice none 0 0, .bool false]) (by simp [results, Tryz.results129, go_sem, *]) rfl ?_
    exact ⟨none, 0, rfl, Row.nil _ _ _ _, Below.refl _ _⟩
  · obtain ⟨n, rfl⟩ : ∃ m, n = m + 1 := ⟨n - 1, by omega⟩
    obtain ⟨b, off, rfl, hb, hcell⟩ := hS.at_ hn
    have hx := hcell n (by omega)
    have ht : Sl w 1 (some ⟨b, off, none⟩) n (zs.take n) := by
      have := hS.sub 0 n (by omega)
      simpa using this
    have hnt : numsL (zs.take n) := fun x hx => hr.2 x (List.mem_of_mem_take hx)
    have c0 := rowOk_yes (some ⟨b, off, none⟩) (n + 1) cap zs w hS (by have := hr.1; omega) (numsB_of hr.2)
    have HT := Lib.hid ht
    have HNT := Lib.hid hnt
    have HU := Lib.hid (unsumL_at hl)
    have hn48 : n ≤ 48 := by have := hr.1; omega
    clear hcell hS hr ht hnt hl
    generalize zs.getD n 0 = x at hx HU
    generalize hzt : zs.take n = ys at HT HNT HU
    have hlk := HT.out.len
    clear hzt
    have hn0 : ((n : Int) + 1 == 0) = false := by simp only [beq_eq_false_iff_ne]; omega
    have hnc : (n : Int) ≤ (cap : Int) := by omega
    have hS0 : w.drew.cell? ⟨b, off + n, none⟩ = some (.int .i64 x) := hx
    by_cases hq : sumL ys = x
    · rw [HU.out, if_pos hq]
      clear HU
      go_enter Tryz.func129, Tryz.ntmps129
      go_wp2_with fail
      refine c0.mono ?_
      rintro e w' ⟨rfl, rfl⟩
      clear c0
      go_wp2_with fail
      go_region_held_law (fun w' => w'.cell? ⟨b, off + n, none⟩ = some (.int .i64 x)) (first | with_reducible assumption) ((go_at_call 132; have hcc := checksum_any (some ⟨b, off, none⟩) n cap ys w.drew (Sl.drew HT.out) hn48 HNT.out; (with_reducible refine hcc.mono ?_); clear hcc; rintro e w' ⟨rfl, rfl⟩))
      all_goals
        have hqb : (sumL ys != x) = false := by simpa using hq
        have hA : (some (⟨b, off, none⟩ : Addr)) = none → n = 0 ∧ cap = 0 := fun h => by cases h
        have c2 := copyRow_any (some ⟨b, off, none⟩) n cap ys w.drew (Sl.drew HT.out) (by omega) hA
        clear hA
        go_wp2_with fail
        refine c2.mono ?_
        rintro e w2 ⟨A2, c3, rfl, R2, b2⟩
        have hyl : ys.length = n := by omega
        go_wp2
        refine bodyPost_ret (v := .tuple #[.slice A2 n c3, .bool true]) (by simp [results, Tryz.results129, go_sem, *]) rfl ?_
        subst hyl
        exact ⟨A2, c3, rfl, R2, tb_dr1 b2⟩
    · rw [HU.out, if_neg hq]
      clear HU
      go_enter Tryz.func129, Tryz.ntmps129
      go_wp2_with fail
      refine c0.mono ?_
      rintro e w' ⟨rfl, rfl⟩
      clear c0
      go_wp2_with fail
      go_region_held_law (fun w' => w'.cell? ⟨b, off + n, none⟩ = some (.int .i64 x)) (first | with_reducible assumption) ((go_at_call 132; have hcc := checksum_any (some ⟨b, off, none⟩) n cap ys w.drew (Sl.drew HT.out) hn48 HNT.out; (with_reducible refine hcc.mono ?_); clear hcc; rintro e w' ⟨rfl, rfl⟩))
      all_goals
        have hqb : (sumL ys != x) = true := by simpa using hq
        go_wp2
        refine bodyPost_ret (v := .tuple #[.slice none 0 0, .bool false]) (by simp [results, Tryz.results129, go_sem, *]) rfl ?_
        exact ⟨none, 0, rfl, Row.nil _ _ _ _, Below.drew (Below.refl _ _)⟩
end Go.Proofs.YtbheflinchabgaaGreatDoor
namespace Go.Proofs.YtbheflinchabgaaGreatDoor
set_option linter.unusedSimpArgs false
set_option linter.unusedVariables false
attribute [local go_sem] n_lt2 n_lt3 n_lt4 n_le2 n_le3
open Go.RowKit
attribute [local go_sem] Ext.cell Ext.frozen
set_option maxHeartbeats 1600000 in
theorem torn_short (A B : Option Addr) (n cap m d : Nat) (zs os : List Int) (w : World) (hS : Sl w 1 A n zs) (hc : n ≤ cap) (hn : 0 < n) (hn48 : n ≤ 48) (ho : os.length = m) (hm : m ≤ n / 2) :
    Calls Tryz.prog 121 #[.slice A n cap, .slice B m d] w (RetRow w 2 1 (n / 2) (tornL zs os)) := by
  have hl : zs.length = n := by have := hS.len; omega
  have ht : tornL zs os = zs.take (n / 2) := by
    unfold tornL
    rw [hl, if_neg (by omega), List.append_nil]
  rw [ht]
  obtain ⟨b, off, rfl, hb, -⟩ := hS.at_ hn
  have hsub : Sl w 1 (some ⟨b, off, none⟩) (n / 2) (zs.take (n / 2)) := by
    have := hS.sub 0 (n / 2) (by omega)
    simpa using this
  have hA : (some (⟨b, off, none⟩ : Addr)) = none → n / 2 = 0 ∧ cap = 0 := fun h => by cases h
  have c1 := copyRow_any (some ⟨b, off, none⟩) (n / 2) cap (zs.take (n / 2)) w hsub (by omega) hA
  clear hS ht hsub hA hl ho
  generalize zs.take (n / 2) = ys at c1
  generalize hh : n / 2 = h at *
  have e1 : (n : Int) / 2 = (h : Int) := by omega
  have e2 : (n : Int).tdiv 2 = (h : Int) := by rw [Int.tdiv_eq_ediv_of_nonneg (by omega)]; exact e1
  have e3 : ¬ (h : Int) < (m : Int) := by omega
  have e4 : (h : Int) ≤ (cap : Int) := by omega
  go_enter Tryz.func121, Tryz.ntmps121
  go_wp2_with fail
  refine c1.mono ?_
  rintro e w2 ⟨A2, c2, rfl, R2, b2⟩
  go_wp2
  go_ret
  exact ⟨A2, c2, rfl, R2, b2⟩
set_option maxHeartbeats 1000000 in
theorem equalRow_len (A B : Option Addr) (n m cap cap' : Nat) (w : World) (h : n ≠ m) :
    Calls Tryz.prog 100 #[.slice A n cap, .slice B m cap'] w fun e w' => e = .returned (.bool false) ∧ Below w.heap.size w w' := by
  have h1 : ((n : Int) != (m : Int)) = true := by simp only [bne_iff_ne, ne_eq]; omega
  have h2 : ((n : Int) == (m : Int)) = false := by simp only [beq_eq_false_iff_ne, ne_eq]; omega
  have h3 : ¬ (n : Int) = (m : Int) := by omega
  go_enter Tryz.func100, Tryz.ntmps100
  go_wp2
  go_ret
  exact ⟨rfl, Below.refl _ _⟩
set_option maxHeartbeats 1000000 in
theorem sameRow_len (A B : Option Addr) (n m cap cap' : Nat) (w : World) (h : n ≠ m) :
    Calls Tryz.prog 54 #[.slice A n cap, .slice B m cap'] w fun e w' => e = .returned (.bool false) ∧ Below w.heap.size w w' := by
  have c1 := equalRow_len A B n m cap cap' w h
  go_enter Tryz.func54, Tryz.ntmps54
  go_wp2_with fail
  refine c1.mono ?_
  rintro e w2 ⟨rfl, b2⟩
  go_wp2
  go_ret
  exact ⟨rfl, b2⟩
end Go.Proofs.YtbheflinchabgaaGreatDoor
namespace Go.Proofs.YtbheflinchabgaaGreatDoor
set_option linter.unusedSimpArgs false
set_option linter.unusedVariables false
attribute [local go_sem] n_lt2 n_lt3 n_lt4 n_le2 n_le3
open Go.RowKit
attribute [local go_sem] Ext.cell Ext.frozen
theorem RowV.of_blk {w : World} {g lo n : Nat} {E : TypeId} {cs : Array Value} (h : Blk w g E cs) (hlo : lo ≤ g) (hn : n ≤ maxLen) (hc : cs.size = n) : RowV w lo E 1 (some ⟨g, 0, none⟩) n n cs.toList :=
  ⟨by simp [hc], .inr ⟨g, n, cs, rfl, hlo, h, Nat.le_refl _, hn, by omega, by rw [List.take_of_length_le (by simp [hc])]⟩⟩
theorem rws_nils (w : World) (n : Nat) : Rws w (List.replicate n (.slice none 0 0)) (List.replicate n []) :=
  ⟨by simp, fun j hj => ⟨.slice none 0 0, by rw [List.length_replicate] at hj; simp [hj], by rw [List.length_replicate] at hj; rw [show (List.replicate n ([] : List Int)).getD j [] = [] by simp [List.getD, hj]]; exact Rw.nil w⟩⟩
theorem apv_nils (O : Option Addr) (n : Nat) : Apv O (List.replicate n (.slice none 0 0)) := fun v hv A m c he a o ha _ => by
  rw [List.eq_of_mem_replicate hv] at he
  injection he with h1
  rw [← h1] at ha
  cases ha
theorem lov_nils (lo n : Nat) : Lov lo (List.replicate n (.slice none 0 0)) := fun v hv A m c he a ha => by
  rw [List.eq_of_mem_replicate hv] at he
  injection he with h1
  rw [← h1] at ha
  cases ha
def RetDisk0 (w : World) (e : Ending) (w' : World) : Prop := ∃ A c vs, e = .returned (.agg #[.slice A 22 c, .slice none 0 0]) ∧ RowV w' w.heap.size 59 1 A 22 c vs ∧ Rws w' vs (List.replicate 22 []) ∧ Apv A vs ∧ Below w.heap.size w w' ∧ Lov w.heap.size vs
set_option maxRecDepth 100000 in
set_option maxHeartbeats 2000000 in
theorem newDisk_22 (w : World) : Calls Tryz.prog 97 #[.int .i64 22] w (RetDisk0 w) := by
  have hmk : ∀ W : World, (Instr.makeSlice 37 (.int .i64 22) (.int .i64 22)).run Tryz.prog W = .ok (.slice (some ⟨W.heap.size, 0, none⟩) 22 22) (W.alloc (.cells (Array.replicate 22 (.slice none 0 0)) 59)) := fun W => by
    have h := make_flat (P := Tryz.prog) 37 59 (.slice none 0 0) 1 24 Tryz.underlying37 info_SlInt (by decide) 22 (by decide) W
    rw [show madeCells (Value.slice none 0 0).cells (22 * 1) = Array.replicate 22 (.slice none 0 0) from by kernel_rfl] at h
    exact h
  go_enter Tryz.func97, Tryz.ntmps97
  go_wp2_with fail
  have cb := between_any 22 1 40 (w.alloc (.cells #[.slice none 0 0, .slice none 0 0] 40))
  rw [show inB 22 1 40 = true from by decide] at cb
  refine cb.mono ?_
  rintro e w' ⟨rfl, rfl⟩
  go_wp21
  refine bodyPost_ret (v := .agg #[.slice (some ⟨w.heap.size + 1, 0, none⟩) 22 22, .slice none 0 0]) (by simp [results, Tryz.results97, go_sem, *]) rfl ?_
  clear hmk cb
  have hK := Blk.new_at (w.alloc (.cells #[.slice (some ⟨w.heap.size + 1, 0, none⟩) 22 22, .slice none 0 0] 40)) 59 (Array.replicate 22 (.slice none 0 0)) (w.heap.size + 1) (by simp)
  have hR := RowV.of_blk (lo := w.heap.size) (n := 22) hK (by omega) (by decide) (by simp)
  rw [Array.toList_replicate] at hR
  exact ⟨_, _, _, rfl, hR, rws_nils _ 22, apv_nils _ 22, by (repeat' (first | (with_reducible exact Below.refl _ _) | (with_reducible assumption) | (with_reducible refine Below.alloc ?_ ?_ _) | (with_reducible refine Below.drew ?_) | (with_reducible refine Below.setCell ?_ ?_ _) | (with_reducible refine bstep (by assumption) ?_ ?_) | (with_reducible exact Nat.le_refl _) | omega | (simp [*]; done) | (simp [*]; omega))), lov_nils _ 22⟩
end Go.Proofs.YtbheflinchabgaaGreatDoor
namespace Go.Proofs.YtbheflinchabgaaGreatDoor
set_option linter.unusedSimpArgs false
set_option linter.unusedVariables false
attribute [local go_sem] n_lt2 n_lt3 n_lt4 n_le2 n_le3
open Go.RowKit
attribute [local go_sem] Ext.cell Ext.frozen
set_option maxHeartbeats 1000000 in
theorem slotOf_small (k : Int) (w : World) (h : 0 ≤ k ∧ k < 20) : Calls Tryz.prog 84 #[.int .i64 k] w fun e w' => e = .returned (.int .i64 (2 + k)) ∧ w = w' := by
  have h1 : k.tmod 20 = k := by rw [Int.tmod_eq_emod_of_nonneg h.1]; omega
  have h2 : k % 20 = k := by omega
  go_enter Tryz.func84, Tryz.ntmps84
  go_wp2
  go_ret
  exact ⟨rfl, by first | rfl | trivial⟩
end Go.Proofs.YtbheflinchabgaaGreatDoor
namespace Go.Proofs.YtbheflinchabgaaGreatDoor
set_option linter.unusedSimpArgs false
set_option linter.unusedVariables false
attribute [local go_sem] n_lt2 n_lt3 n_lt4 n_le2 n_le3
open Go.RowKit
attribute [local go_sem] Ext.cell Ext.frozen
/-- A disk of the call's own without waiting writes. -/
def RetD0 (w : World) (n : Nat) (rows : List (List Int)) (e : Ending) (w' : World) : Prop := ∃ K c vs, e = .returned (.agg #[.slice K n c, .slice none 0 0]) ∧ OwnK w' w.heap.size 59 K n c rows vs ∧ Below w.heap.size w w'
theorem OwnK.mono {w : World} {lo lo' E : Nat} {K : Option Addr} {n c : Nat} {rows : List (List Int)} {vs : List Value} (h : OwnK w lo E K n c rows vs) (hl : lo' ≤ lo) : OwnK w lo' E K n c rows vs :=
  ⟨h.r.mono hl, h.s, h.a, fun v hv A n c he a ha => Nat.le_trans hl (h.l v hv A n c he a ha)⟩
theorem RetRows.own {w w' : World} {E n : Nat} {rows : List (List Int)} {e : Ending} (h : RetRows w E n rows e w') : ∃ A c vs, e = .returned (.slice A n c) ∧ OwnK w' w.heap.size E A n c rows vs ∧ Below w.heap.size w w' := by
  obtain ⟨A, c, vs, he, h1, h2, h3, h4, h5⟩ := h
  exact ⟨A, c, vs, he, ⟨h1, h2, h3, h5⟩, h4⟩
set_option maxRecDepth 100000 in
set_option maxHeartbeats 4000000 in
theorem copyDisk_none (K W : Option Addr) (n c d : Nat) (rows : List (List Int)) (w : World) (h : Dk w K n W 0 rows []) :
    Calls Tryz.prog 106 #[.agg #[.slice K n c, .slice W 0 d]] w (RetD0 w n rows) := by
  have hn := h.hn.2
  have hr := Lib.hid (fun r (hr : r ∈ rows) => (show r.length ≤ 1000 from Nat.le_trans (h.r r hr).1 (by decide)))
  have HID : Hid (On (Rg 0 w.heap.size) (fun x => Dk x K n W 0 rows []) w) := Lib.hid (On.below_of (fun _ hb => (h).below hb))
  clear h
  go_enter Tryz.func106, Tryz.ntmps106
  go_wp2_with fail
  refine calls_named ?_
  rintro v0 hv0
  have f0 : Below w.heap.size w v0 := by rw [hv0]; (repeat' (first | (with_reducible exact Below.refl _ _) | (with_reducible assumption) | (with_reducible refine Below.alloc ?_ ?_ _) | (with_reducible refine Below.drew ?_) | (with_reducible refine Below.setCell ?_ ?_ _) | (with_reducible refine bstep (by assumption) ?_ ?_) | (with_reducible exact Nat.le_refl _) | omega | (simp [*]; done) | (simp [*]; omega)))
  have z0 : w.heap.size + 2 ≤ v0.heap.size := by rw [hv0]; simp [size_set]
  have HB_0 : Hid (Blk v0 w.heap.size 40 #[.slice K n c, .slice W 0 d]) := by rw [hv0]; exact Lib.hid (((Blk.new_at _ _ _ _ (by simp [size_set]))).alloc _)
  have HR_0 : Hid (Blk v0 (w.heap.size + 1) 40 #[.slice none 0 0, .slice none 0 0]) := by rw [hv0]; exact Lib.hid ((Blk.new_at _ _ _ _ (by simp [size_set])))
  clear hv0
  obtain ⟨gR, hgR⟩ : ∃ q, q = w.heap.size + 1 := ⟨_, rfl⟩
  rw [← hgR] at HR_0
  try rw [← hgR]
  have lgR : w.heap.size ≤ gR := by omega
  have mgR : gR < v0.heap.size := by omega
  have ngR : ∀ k, w.heap.size ≤ k → k ≠ gR → True := fun _ _ _ => trivial
  clear ngR
  obtain ⟨gB, hgB⟩ : ∃ q, q = w.heap.size := ⟨_, rfl⟩
  rw [← hgB] at HB_0
  try rw [← hgB]
  have lgB : w.heap.size ≤ gB := by omega
  have mgB : gB < v0.heap.size := by omega
  have ngB : ∀ k, w.heap.size ≤ k → k ≠ gB → True := fun _ _ _ => trivial
  clear ngB
  have nnBR : gB < gR := by omega
  clear hgB
  clear hgR
  refine (copyRows_any K n c rows v0 ((HID.out).inB f0 (fun _ hk => hk.2)).out.k (by omega) hr.out).mono ?_
  rintro e v1 hq
  obtain ⟨K', c', vs, rfl, hO, b1⟩ := hq.own
  clear hq
  have f1 := bthen f0 b1
  have z1 := b1.size
  have HB_1 := Lib.hid (HB_0.out.below b1)
  have HR_1 := Lib.hid (HR_0.out.below b1)
  clear HB_0 HR_0
  have HO_1 := Lib.hid (show On (Rg v0.heap.size v1.heap.size) (fun x => OwnK x v0.heap.size 59 K' n c' rows vs) v1 from hO.on)
  clear hO
  have lt_B := HB_1.out.lt
  have r_B0 : v1.cell? ⟨gB, 0, none⟩ = some (.slice K n c) := HB_1.out.cell 0
  have r_B1 : v1.cell? ⟨gB, 1, none⟩ = some (.slice W 0 d) := HB_1.out.cell 1
  go_upto_region 2 with fail
  obtain ⟨v2, hv2⟩ : ∃ x : World, x = (v1.alloc (.cells #[(.slice K' n c'), .slice none 0 0] 40)) := ⟨_, rfl⟩
  rw [← hv2]
  have f2 : Below w.heap.size w v2 := by rw [hv2]; (repeat' (first | (with_reducible exact Below.refl _ _) | (with_reducible assumption) | (with_reducible refine Below.alloc ?_ ?_ _) | (with_reducible refine Below.drew ?_) | (with_reducible refine Below.setCell ?_ ?_ _) | (with_reducible refine bstep (by assumption) ?_ ?_) | (with_reducible exact Nat.le_refl _) | omega | (simp [*]; done) | (simp [*]; omega)))
  have z2 : v1.heap.size + 1 ≤ v2.heap.size := by rw [hv2]; simp [size_set]
  have HB_2 : Hid (Blk v2 gB 40 #[.slice K n c, .slice W 0 d]) := by rw [hv2]; exact Lib.hid ((HB_1.out).alloc _)
  have HR_2 : Hid (Blk v2 gR 40 #[.slice none 0 0, .slice none 0 0]) := by rw [hv2]; exact Lib.hid ((HR_1.out).alloc _)
  have HO_2 : Hid (On (Rg v0.heap.size v1.heap.size) (fun x => OwnK x v0.heap.size 59 K' n c' rows vs) v2) := by rw [hv2]; exact Lib.hid ((HO_1.out).alloc _)
  have HU_2 : Hid (Blk v2 v1.heap.size 40 #[(.slice K' n c'), .slice none 0 0]) := by rw [hv2]; exact Lib.hid ((Blk.new_at _ _ _ _ (by simp [size_set])))
  clear lt_B r_B0 r_B1
  clear hv2 HB_1 HR_1 HO_1
  obtain ⟨gU, hgU⟩ : ∃ q, q = v1.heap.size := ⟨_, rfl⟩
  rw [← hgU] at HU_2
  try rw [← hgU]
  have lgU : v1.heap.size ≤ gU := by omega
  have mgU : gU < v2.heap.size := by omega
  have ngU : ∀ k, v1.heap.size ≤ k → k ≠ gU → True := fun _ _ _ => trivial
  clear ngU
  clear hgU
  have lt_B := HB_2.out.lt
  have r_B0 : v2.cell? ⟨gB, 0, none⟩ = some (.slice K n c) := HB_2.out.cell 0
  have r_B1 : v2.cell? ⟨gB, 1, none⟩ = some (.slice W 0 d) := HB_2.out.cell 1
  go_wp2_with fail
  go_loopw [13] (fun iv wr => iv = .int .i64 0 ∧ v2 = wr) (fun _ _ => 0)
  case atStart => exact ⟨rfl, rfl⟩
  case round =>
    obtain ⟨rfl, rfl⟩ := hrel
    clear lt_B r_B0 r_B1
    have lt_U := HU_2.out.lt
    have r_U0 : v2.cell? ⟨gU, 0, none⟩ = some ((.slice K' n c')) := HU_2.out.cell 0
    have r_U1 : v2.cell? ⟨gU, 1, none⟩ = some (.slice none 0 0) := HU_2.out.cell 1
    have lt_R := HR_2.out.lt
    have r_R0 : v2.cell? ⟨gR, 0, none⟩ = some (.slice none 0 0) := HR_2.out.cell 0
    have r_R1 : v2.cell? ⟨gR, 1, none⟩ = some (.slice none 0 0) := HR_2.out.cell 1
    have z_R0 := HR_2.out.frozen 0
    have z_R1 := HR_2.out.frozen 1
    go_wp21
    refine bodyPost_ret (v := .agg #[.slice K' n c', .slice none 0 0]) (by simp [results, Tryz.results106, go_sem, *]) rfl ?_
    exact ⟨K', c', vs, rfl, OwnK.mono ((((HO_2.out).far (g := gR) (Rg.no (by omega)) 0 _).far (g := gR) (Rg.no (by omega)) 1 _).out) (by omega), ((f2).setCell (p := ⟨gR, 0, none⟩) (by omega) _).setCell (p := ⟨gR, 1, none⟩) (by omega) _⟩
end Go.Proofs.YtbheflinchabgaaGreatDoor
namespace Go.Proofs.YtbheflinchabgaaGreatDoor
set_option linter.unusedSimpArgs false
set_option linter.unusedVariables false
attribute [local go_sem] n_lt2 n_lt3 n_lt4 n_le2 n_le3
open Go.RowKit
attribute [local go_sem] Ext.cell Ext.frozen
/-- A slice of one waiting write of the call's own. -/
structure OwnW (w : World) (lo E : Nat) (W : Option Addr) (d : Nat) (at_ : Int) (u : Value) (zs : List Int) : Prop where
  r : RowV w lo E 2 W 1 d [.int .i64 at_, u]
  s : Rw w u zs
  l : ∀ A n c, u = .slice A n c → ∀ a, A = some a → lo ≤ a.block
theorem Rw.ltb {w : World} {u : Value} {zs : List Int} (h : Rw w u zs) : ∀ A n c, u = .slice A n c → ∀ a, A = some a → a.block < w.heap.size := fun A n c he a ha => by
  obtain ⟨A', c', hv, _, _, _, _, h4⟩ := h
  rw [hv] at he
  injection he with h1
  rw [← h1] at ha
  exact h4 a ha
theorem OwnW.agr {S : Nat → Prop} {w w' : World} {lo E : Nat} {W : Option Addr} {d : Nat} {at_ : Int} {u : Value} {zs : List Int} (h : OwnW w lo E W d at_ u zs) (ha : Agr S w w') (hS : ∀ k, Rg lo w.heap.size k → S k) : OwnW w' lo E W d at_ u zs :=
  ⟨h.r.agr ha (fun a hA => hS _ ⟨h.r.ge a hA, h.r.lt a hA⟩), h.s.agr ha (fun A n c he a hA => hS _ ⟨h.l A n c he a hA, h.s.ltb A n c he a hA⟩), h.l⟩
theorem OwnW.on {w : World} {lo E : Nat} {W : Option Addr} {d : Nat} {at_ : Int} {u : Value} {zs : List Int} (h : OwnW w lo E W d at_ u zs) : On (Rg lo w.heap.size) (fun v => OwnW v lo E W d at_ u zs) w := fun _ hv => h.agr hv (fun _ hk => hk)
theorem OwnW.far {w : World} {lo E : Nat} {W : Option Addr} {d : Nat} {at_ : Int} {u : Value} {zs : List Int} (h : OwnW w lo E W d at_ u zs) {g : Nat} (hg : g < lo) (i : Nat) (x : Value) : OwnW (w.setCell ⟨g, i, none⟩ x) lo E W d at_ u zs :=
  (h.on.far (Rg.no (.inl hg)) i x).out
theorem OwnW.slw {w : World} {lo E : Nat} {W : Option Addr} {d : Nat} {at_ : Int} {u : Value} {zs : List Int} (h : OwnW w lo E W d at_ u zs) : SlW w W 1 [(at_, zs)] :=
  ⟨_, h.r.sl, rfl, fun j hj => by
    obtain rfl : j = 0 := by omega
    exact ⟨rfl, u, rfl, h.s⟩⟩
def RetD1 (w : World) (n : Nat) (rows : List (List Int)) (at_ : Int) (zs : List Int) (e : Ending) (w' : World) : Prop := ∃ K c vs W d u mid, e = .returned (.agg #[.slice K n c, .slice W 1 d]) ∧ OwnK w' w.heap.size 59 K n c rows vs ∧ OwnW w' mid 216 W d at_ u zs ∧ w.heap.size ≤ mid ∧ (∀ a, K = some a → a.block < mid) ∧ Below w.heap.size w w'
theorem grow_al {w w5 : World} {o : Obj} {a b : Nat} (h : (w.alloc o).grownBy w5 (Value.slice none a b).ownBlock) : Below w.heap.size w w5 :=
  bthen ((Below.refl _ _).alloc (Nat.le_refl _) o) ⟨h.os, h.tape, h.output, h.size, fun k hk => h.block k hk (by simp [Value.ownBlock])⟩
theorem info_WriteL : (Tryz.prog.info? 216).map (fun i => (i.zero, i.size, i.bytes)) = some (some (.agg #[.int .i64 0, .slice none 0 0]), 2, 32) := by kernel_rfl
theorem cell_two_at {w : World} {x y : Value} {t : TypeId} {g : Nat} (hg : w.heap.size = g) : ∀ j u, [x, y][j]? = some u → (w.alloc (.cells #[x, y] t)).cell? ((⟨g, 0, none⟩ : Addr).add j) = some u := by
  subst hg
  exact cell_two_new w x y t
theorem two_one {x : Int} {A : Option Addr} {n c : Nat} : ∀ u ∈ [Value.int .i64 x, .slice A n c], u.oneCell' = true := by
  intro u hu
  simp only [List.mem_cons, List.not_mem_nil, or_false] at hu
  rcases hu with rfl | rfl <;> rfl
theorem cd_end {w v3 v4 w5 : World} {lo hi gU gR g c5 n c' c4 m : Nat} {K' A4 : Option Addr} {rows : List (List Int)} {vs : List Value} {at_ : Int} {zs : List Int}
    (HR : Hid (Blk v3 gR 40 #[.slice none 0 0, .slice none 0 0])) (HO : Hid (On (Rg lo hi) (fun x => OwnK x lo 59 K' n c' rows vs) v3)) (HU : Hid (Blk v3 gU 40 #[.slice K' n c', .slice none 0 0]))
    (f3 : Below w.heap.size w v3) (E4 : Below v3.heap.size v3 v4) (E5 : Below v4.heap.size v4 w5) (R4 : Row v4 v3.heap.size 2 1 A4 m c4 zs)
    (hown : w5.ownsRow v4.heap.size 216 2 (.slice (some ⟨g, 0, none⟩) (0 + 1) c5) (0 + 1) ([] ++ [.int .i64 at_, .slice A4 m c4])) (hgU : gU < v3.heap.size) (hgR : gR ≠ gU) (hlo : gU < lo ∨ hi ≤ gU) (hw : w.heap.size ≤ gU) :
    Hid (Blk (w5.setCell ⟨gU, 1, none⟩ (.slice (some ⟨g, 0, none⟩) 1 c5)) gU 40 #[.slice K' n c', .slice (some ⟨g, 0, none⟩) 1 c5]) ∧ Hid (Blk (w5.setCell ⟨gU, 1, none⟩ (.slice (some ⟨g, 0, none⟩) 1 c5)) gR 40 #[.slice none 0 0, .slice none 0 0]) ∧
    Hid (On (Rg lo hi) (fun x => OwnK x lo 59 K' n c' rows vs) (w5.setCell ⟨gU, 1, none⟩ (.slice (some ⟨g, 0, none⟩) 1 c5))) ∧ Hid (OwnW (w5.setCell ⟨gU, 1, none⟩ (.slice (some ⟨g, 0, none⟩) 1 c5)) v3.heap.size 216 (some ⟨g, 0, none⟩) c5 at_ (.slice A4 m c4) zs) ∧ True ∧
    Hid (Below w.heap.size w (w5.setCell ⟨gU, 1, none⟩ (.slice (some ⟨g, 0, none⟩) 1 c5))) := by
  have z4 := E4.size
  have hW : OwnW w5 v3.heap.size 216 (some ⟨g, 0, none⟩) c5 at_ (.slice A4 m c4) zs :=
    ⟨RowV.mono (show RowV w5 v4.heap.size 216 2 (some ⟨g, 0, none⟩) 1 c5 [.int .i64 at_, .slice A4 m c4] from hown) z4, (Rw.of_row R4).below E5, fun A n c he a ha => by
      injection he with h1
      rw [← h1] at ha
      exact R4.ge a ha⟩
  exact ⟨Lib.hid (((HU.out.below E4).below E5).set_ 1 _), Lib.hid (((HR.out.below E4).below E5).far hgR _), Lib.hid (((HO.out.below E4).below E5).far (Rg.no hlo) 1 _), Lib.hid (hW.far hgU 1 _), trivial, Lib.hid ((bthen (bthen f3 E4) E5).setCell (p := ⟨gU, 1, none⟩) hw _)⟩
set_option maxRecDepth 100000 in
set_option maxHeartbeats 4000000 in
theorem copyDisk_one (K W : Option Addr) (n c d : Nat) (rows : List (List Int)) (at_ : Int) (zs : List Int) (w : World) (h : Dk w K n W 1 rows [(at_, zs)]) :
    Calls Tryz.prog 106 #[.agg #[.slice K n c, .slice W 1 d]] w (RetD1 w n rows at_ zs) := by
  have hn := h.hn.2
  have hr := Lib.hid (fun r (hr : r ∈ rows) => (show r.length ≤ 1000 from Nat.le_trans (h.r r hr).1 (by decide)))
  have hz : zs.length ≤ 48 := (h.x _ (List.mem_singleton.2 rfl)).2.1
  have HID : Hid (On (Rg 0 w.heap.size) (fun x => Dk x K n W 1 rows [(at_, zs)]) w) := Lib.hid (On.below_of (fun _ hb => (h).below hb))
  clear h
  go_enter Tryz.func106, Tryz.ntmps106
  go_wp2_with fail
  refine calls_named ?_
  rintro v0 hv0
  have f0 : Below w.heap.size w v0 := by rw [hv0]; (repeat' (first | (with_reducible exact Below.refl _ _) | (with_reducible assumption) | (with_reducible refine Below.alloc ?_ ?_ _) | (with_reducible refine Below.drew ?_) | (with_reducible refine Below.setCell ?_ ?_ _) | (with_reducible refine bstep (by assumption) ?_ ?_) | (with_reducible exact Nat.le_refl _) | omega | (simp [*]; done) | (simp [*]; omega)))
  have z0 : w.heap.size + 2 ≤ v0.heap.size := by rw [hv0]; simp [size_set]
  have HB_0 : Hid (Blk v0 w.heap.size 40 #[.slice K n c, .slice W 1 d]) := by rw [hv0]; exact Lib.hid (((Blk.new_at _ _ _ _ (by simp [size_set]))).alloc _)
  have HR_0 : Hid (Blk v0 (w.heap.size + 1) 40 #[.slice none 0 0, .slice none 0 0]) := by rw [hv0]; exact Lib.hid ((Blk.new_at _ _ _ _ (by simp [size_set])))
  clear hv0
  obtain ⟨gR, hgR⟩ : ∃ q, q = w.heap.size + 1 := ⟨_, rfl⟩
  rw [← hgR] at HR_0
  try rw [← hgR]
  have lgR : w.heap.size ≤ gR := by omega
  have mgR : gR < v0.heap.size := by omega
  have ngR : ∀ k, w.heap.size ≤ k → k ≠ gR → True := fun _ _ _ => trivial
  clear ngR
  obtain ⟨gB, hgB⟩ : ∃ q, q = w.heap.size := ⟨_, rfl⟩
  rw [← hgB] at HB_0
  try rw [← hgB]
  have lgB : w.heap.size ≤ gB := by omega
  have mgB : gB < v0.heap.size := by omega
  have ngB : ∀ k, w.heap.size ≤ k → k ≠ gB → True := fun _ _ _ => trivial
  clear ngB
  have nnBR : gB < gR := by omega
  clear hgB
  clear hgR
  refine (copyRows_any K n c rows v0 ((HID.out).inB f0 (fun _ hk => hk.2)).out.k (by omega) hr.out).mono ?_
  rintro e v1 hq
  obtain ⟨K', c', vs, rfl, hO, b1⟩ := hq.own
  clear hq
  have hkl := Lib.hid hO.r.lt
  have f1 := bthen f0 b1
  have z1 := b1.size
  have HB_1 := Lib.hid (HB_0.out.below b1)
  have HR_1 := Lib.hid (HR_0.out.below b1)
  clear HB_0 HR_0
  have HO_1 := Lib.hid (show On (Rg v0.heap.size v1.heap.size) (fun x => OwnK x v0.heap.size 59 K' n c' rows vs) v1 from hO.on)
  clear hO
  have lt_B := HB_1.out.lt
  have r_B0 : v1.cell? ⟨gB, 0, none⟩ = some (.slice K n c) := HB_1.out.cell 0
  have r_B1 : v1.cell? ⟨gB, 1, none⟩ = some (.slice W 1 d) := HB_1.out.cell 1
  go_upto_region 2 with fail
  obtain ⟨v2, hv2⟩ : ∃ x : World, x = (v1.alloc (.cells #[(.slice K' n c'), .slice none 0 0] 40)) := ⟨_, rfl⟩
  rw [← hv2]
  have f2 : Below w.heap.size w v2 := by rw [hv2]; (repeat' (first | (with_reducible exact Below.refl _ _) | (with_reducible assumption) | (with_reducible refine Below.alloc ?_ ?_ _) | (with_reducible refine Below.drew ?_) | (with_reducible refine Below.setCell ?_ ?_ _) | (with_reducible refine bstep (by assumption) ?_ ?_) | (with_reducible exact Nat.le_refl _) | omega | (simp [*]; done) | (simp [*]; omega)))
  have z2 : v1.heap.size + 1 ≤ v2.heap.size := by rw [hv2]; simp [size_set]
  have HB_2 : Hid (Blk v2 gB 40 #[.slice K n c, .slice W 1 d]) := by rw [hv2]; exact Lib.hid ((HB_1.out).alloc _)
  have HR_2 : Hid (Blk v2 gR 40 #[.slice none 0 0, .slice none 0 0]) := by rw [hv2]; exact Lib.hid ((HR_1.out).alloc _)
  have HO_2 : Hid (On (Rg v0.heap.size v1.heap.size) (fun x => OwnK x v0.heap.size 59 K' n c' rows vs) v2) := by rw [hv2]; exact Lib.hid ((HO_1.out).alloc _)
  have HU_2 : Hid (Blk v2 v1.heap.size 40 #[(.slice K' n c'), .slice none 0 0]) := by rw [hv2]; exact Lib.hid ((Blk.new_at _ _ _ _ (by simp [size_set])))
  clear lt_B r_B0 r_B1
  clear hv2 HB_1 HR_1 HO_1
  obtain ⟨gU, hgU⟩ : ∃ q, q = v1.heap.size := ⟨_, rfl⟩
  rw [← hgU] at HU_2
  try rw [← hgU]
  have lgU : v1.heap.size ≤ gU := by omega
  have mgU : gU < v2.heap.size := by omega
  have ngU : ∀ k, v1.heap.size ≤ k → k ≠ gU → True := fun _ _ _ => trivial
  clear ngU
  clear hgU
  have lt_B := HB_2.out.lt
  have r_B0 : v2.cell? ⟨gB, 0, none⟩ = some (.slice K n c) := HB_2.out.cell 0
  have r_B1 : v2.cell? ⟨gB, 1, none⟩ = some (.slice W 1 d) := HB_2.out.cell 1
  go_wp2_with fail
  clear lt_B r_B0 r_B1
  go_loopw [13] (fun iv wr => (iv = .int .i64 0 ∧ v2 = wr) ∨ (iv = .int .i64 1 ∧ ∃ W' d' u mid, Hid (Blk wr gU 40 #[.slice K' n c', .slice W' 1 d']) ∧ Hid (Blk wr gR 40 #[.slice none 0 0, .slice none 0 0]) ∧ Hid (On (Rg v0.heap.size v1.heap.size) (fun x => OwnK x v0.heap.size 59 K' n c' rows vs) wr) ∧ Hid (OwnW wr mid 216 W' d' at_ u zs) ∧ v2.heap.size < mid ∧ Hid (Below w.heap.size w wr))) (fun iv _ => 1 - (intOf iv).toNat)
  case atStart => exact .inl ⟨rfl, rfl⟩
  case round =>
    rcases hrel with ⟨rfl, rfl⟩ | ⟨rfl, W2, d2, u2, mid, HU, HR, HO, HW, hmid, HF⟩
    · obtain ⟨b, off, y, rfl, hb, hc0, hc1, hy⟩ := ((HID.out).inB f2 (fun _ hk => hk.2)).out.wt.at_ (j := 0) (by omega)
      simp only [Nat.zero_mul, Nat.add_zero, List.getD_cons_zero] at hc0 hc1 hy
      obtain ⟨Ax, cx, rfl, hSx, hx1, hx2, hx3, hx4⟩ := hy
      have HX := Lib.hid hSx
      clear hSx hx1 hx2 hx4 HID
      generalize hzl : zs.length = m at *
      go_upto_region 5 with fail
      obtain ⟨v3, hv3⟩ : ∃ x : World, x = (v2.alloc (.cells #[.int .i64 at_, .slice Ax m cx] 216)) := ⟨_, rfl⟩
      rw [← hv3]
      have f3 : Below w.heap.size w v3 := by rw [hv3]; (repeat' (first | (with_reducible exact Below.refl _ _) | (with_reducible assumption) | (with_reducible refine Below.alloc ?_ ?_ _) | (with_reducible refine Below.drew ?_) | (with_reducible refine Below.setCell ?_ ?_ _) | (with_reducible refine bstep (by assumption) ?_ ?_) | (with_reducible exact Nat.le_refl _) | omega | (simp [*]; done) | (simp [*]; omega)))
      have z3 : v2.heap.size + 1 ≤ v3.heap.size := by rw [hv3]; simp [size_set]
      have HB_3 : Hid (Blk v3 gB 40 #[.slice K n c, .slice (some ⟨b, off, none⟩) 1 d]) := by rw [hv3]; exact Lib.hid ((HB_2.out).alloc _)
      have HR_3 : Hid (Blk v3 gR 40 #[.slice none 0 0, .slice none 0 0]) := by rw [hv3]; exact Lib.hid ((HR_2.out).alloc _)
      have HO_3 : Hid (On (Rg v0.heap.size v1.heap.size) (fun x => OwnK x v0.heap.size 59 K' n c' rows vs) v3) := by rw [hv3]; exact Lib.hid ((HO_2.out).alloc _)
      have HU_3 : Hid (Blk v3 gU 40 #[(.slice K' n c'), .slice none 0 0]) := by rw [hv3]; exact Lib.hid ((HU_2.out).alloc _)
      have HL_3 : Hid (Blk v3 v2.heap.size 216 #[.int .i64 at_, .slice Ax m cx]) := by rw [hv3]; exact Lib.hid ((Blk.new_at _ _ _ _ (by simp [size_set])))
      have HX3 : Hid (Sl v3 1 Ax m zs) := by rw [hv3]; exact Lib.hid (HX.out.alloc _)
      clear hv3 HB_2 HR_2 HO_2 HU_2
      obtain ⟨gL, hgL⟩ : ∃ q, q = v2.heap.size := ⟨_, rfl⟩
      rw [← hgL] at HL_3
      try rw [← hgL]
      have lgL : v2.heap.size ≤ gL := by omega
      have mgL : gL < v3.heap.size := by omega
      have ngL : ∀ k, v2.heap.size ≤ k → k ≠ gL → True := fun _ _ _ => trivial
      clear ngL
      clear hgL
      clear hc0 hc1 HX
      have lt_U := HU_3.out.lt
      have r_U0 : v3.cell? ⟨gU, 0, none⟩ = some ((.slice K' n c')) := HU_3.out.cell 0
      have r_U1 : v3.cell? ⟨gU, 1, none⟩ = some (.slice none 0 0) := HU_3.out.cell 1
      have lt_L := HL_3.out.lt
      have r_L0 : v3.cell? ⟨gL, 0, none⟩ = some (.int .i64 at_) := HL_3.out.cell 0
      have r_L1 : v3.cell? ⟨gL, 1, none⟩ = some (.slice Ax m cx) := HL_3.out.cell 1
      have z_U1 := HU_3.out.frozen 1
      obtain ⟨ia, hia, hza, hsa, hya⟩ := info_parts info_WriteL
      go_region_law (first | (refine step_append_lies _ rfl _ _ 38 rfl v4.heap.size 216 ia _ 2 32 Tryz.underlying38 hia hza hsa hya (by simp [Value.cells]) (by decide) (.slice none 0 0) 0 [] rfl (World.ownsRow_nil _ _ _ _) ⟨_, 0, none⟩ 1 1 [.int .i64 at_, .slice A4 m c4] rfl rfl (cell_two_at rfl) two_one (by decide) (by unfold maxLen; omega) (by omega) (by simp) _ rfl ?_; intro g c5 w5 hown hgrow hat hlt5; have E5 : Below v4.heap.size v4 w5 := (by with_reducible exact grow_al hgrow); have KU5 := KU4.below E5; have u51 := KU5.cell 1; have uf5 := KU5.frozen 1; have ul5 := KU5.lt) | (go_simp; go_at_call 126; refine (copyRow_any Ax m cx zs _ ?_ (by omega) hx3).mono ?_; (first | with_reducible exact HX3.out | with_reducible exact Sl.drew HX3.out); rintro e v4 ⟨A4, c4, rfl, R4, b4⟩; have E4 : Below v3.heap.size v3 v4 := (by first | with_reducible exact b4 | with_reducible exact sd_dr b4); have R4b : Row v4 v3.heap.size 2 1 A4 m c4 zs := (by exact R4); have KU4 := HU_3.out.below E4; have KL4 := HL_3.out.below E4; have u40 := KU4.cell 0; have u41 := KU4.cell 1; have uf1 := KU4.frozen 1; have ul := KU4.lt; have l40 := KL4.cell 0; have l41 := KL4.cell 1; have ll := KL4.lt; clear b4 R4))
      all_goals
        have hfin := cd_end (gU := gU) (gR := gR) HR_3 HO_3 HU_3 f3 E4 E5 R4b hown (by omega) (by omega) (by omega) (by omega)
        clear u40 u41 uf1 ul l40 l41 ll
        go_wp2_with fail
        obtain ⟨q1, q2, q3, q4, -, q6⟩ := hfin
        exact ⟨.inr ⟨rfl, _, _, _, _, q1, q2, q3, q4, by omega, q6⟩, by simp [intOf]⟩
    · have KU := HU.out
      have KR := HR.out
      have r_U0 : wr.cell? ⟨gU, 0, none⟩ = some (.slice K' n c') := KU.cell 0
      have r_U1 : wr.cell? ⟨gU, 1, none⟩ = some (.slice W2 1 d2) := KU.cell 1
      have lt_U := KU.lt
      have lt_R := KR.lt
      have r_R0 := KR.cell 0
      have r_R1 := KR.cell 1
      have z_R0 := KR.frozen 0
      have z_R1 := KR.frozen 1
      clear KU KR
      go_wp21
      refine bodyPost_ret (v := .agg #[.slice K' n c', .slice W2 1 d2]) (by simp [results, Tryz.results106, go_sem, *]) rfl ?_
      exact ⟨K', c', vs, W2, d2, u2, mid, rfl, OwnK.mono (((HO.out.far (g := gR) (Rg.no (by omega)) 0 _).far (g := gR) (Rg.no (by omega)) 1 _).out) (by omega), (HW.out.far (g := gR) (by omega) 0 _).far (g := gR) (by omega) 1 _, by omega, fun a ha => by have := hkl.out a ha; omega, (HF.out.setCell (p := ⟨gR, 0, none⟩) (by omega) _).setCell (p := ⟨gR, 1, none⟩) (by omega) _⟩
end Go.Proofs.YtbheflinchabgaaGreatDoor
namespace Go.Proofs.YtbheflinchabgaaGreatDoor
set_option linter.unusedSimpArgs false
set_option linter.unusedVariables false
attribute [local go_sem] n_lt2 n_lt3 n_lt4 n_le2 n_le3
open Go.RowKit
theorem mem_set_or {α : Type} {l : List α} {i : Nat} {x y : α} (h : y ∈ l.set i x) : y ∈ l ∨ y = x := List.mem_or_eq_of_mem_set h
theorem OwnK.set {w : World} {lo E : Nat} {K : Option Addr} {n c : Nat} {rows : List (List Int)} {vs : List Value} (h : OwnK w lo E K n c rows vs) {kb a : Nat} (hK : K = some ⟨kb, 0, none⟩) (ha : a < n) {u : Value} {zs : List Int} (hu : Rw w u zs)
    (hul : ∀ A m d, u = .slice A m d → ∀ p, A = some p → lo ≤ p.block ∧ p.block ≠ kb) : OwnK (w.setCell ⟨kb, a, none⟩ u) lo E K n c (rows.set a zs) (vs.set a u) := by
  have hlen := h.r.len
  have hrl := h.s.1
  have hag : Agr (fun k => k ≠ kb) w (w.setCell ⟨kb, a, none⟩ u) := (Agr.refl _ _).set_ (g := kb) (fun hn => hn rfl) a u
  refine ⟨⟨by simp [hlen], ?_⟩, ⟨by simp [hrl], fun j hj => ?_⟩, fun v hv A m d he p o hp ho => ?_, fun v hv A m d he p hp => ?_⟩
  · rcases h.r.2 with ⟨_, h0⟩ | ⟨g, c', cur, hv, hb, hg, h1, h2, hcs, ht⟩
    · omega
    · have hgk : g = kb := by
        injection hv with e1
        rw [hK] at e1
        injection e1 with e1
        injection e1 with e1
        exact e1.symm
      subst hgk
      refine .inr ⟨g, c', cur.setIfInBounds a u, hv, hb, Blk.set_ hg a u, h1, h2, by simpa using hcs, ?_⟩
      rw [Array.toList_setIfInBounds, List.take_set, ht]
  · rw [List.length_set] at hj
    by_cases e : a = j
    · subst e
      refine ⟨u, by rw [List.getElem?_set_self (by rw [hrl]; exact hj)], ?_⟩
      rw [set_getD _ _ _ _ hj, if_pos rfl]
      exact hu.agr hag (fun A m d he p hp => (hul A m d he p hp).2)
    · obtain ⟨v, hv, hR⟩ := h.s.2 j hj
      refine ⟨v, by rw [List.getElem?_set_ne e]; exact hv, ?_⟩
      rw [set_getD _ _ _ _ hj, if_neg e]
      exact hR.agr hag (fun A m d he p hp => h.a v (List.mem_of_getElem? hv) A m d he p ⟨kb, 0, none⟩ hp hK)
  · rcases mem_set_or hv with h1 | h1
    · exact h.a v h1 A m d he p o hp ho
    · subst h1
      have := (hul A m d he p hp).2
      rw [hK] at ho
      obtain rfl := Option.some.inj ho
      exact this
  · rcases mem_set_or hv with h1 | h1
    · exact h.l v h1 A m d he p hp
    · subst h1
      exact (hul A m d he p hp).1
/-- A disk whose rows are the call's own. -/
theorem OwnK.dk {w : World} {lo E : Nat} {K : Option Addr} {n c : Nat} {rows : List (List Int)} {vs : List Value} (h : OwnK w lo E K n c rows vs) (hn : 1 ≤ n ∧ n ≤ 40) (hr : rowsL rows) (W : Option Addr) : Dk w K n W 0 rows [] :=
  ⟨h.slr, ⟨[], SlV.nil _ _ _, rfl, fun j hj => absurd hj (by omega)⟩, hn, by omega, hr, fun x hx => by cases hx⟩
theorem OwnK.dk1 {w : World} {lo mid E F : Nat} {K W : Option Addr} {n c d : Nat} {rows : List (List Int)} {vs : List Value} {at_ : Int} {u : Value} {zs : List Int} (h : OwnK w lo E K n c rows vs) (hW : OwnW w mid F W d at_ u zs) (hn : 1 ≤ n ∧ n ≤ 40) (hr : rowsL rows) (ha : 0 ≤ at_ ∧ at_ < n) (hz : rowL zs) : Dk w K n W 1 rows [(at_, zs)] :=
  ⟨h.slr, hW.slw, hn, by omega, hr, fun x hx => by obtain rfl := List.mem_singleton.1 hx; exact ⟨ha, hz⟩⟩
/-- What a function of disks hands back: a disk that rests on new memory. -/
def RetDk (w : World) (n m : Nat) (rows : List (List Int)) (ws : List (Int × List Int)) (wrap : Value → Value) (e : Ending) (w' : World) : Prop :=
  ∃ K c W d, e = .returned (wrap (.agg #[.slice K n c, .slice W m d])) ∧ On (Rg w.heap.size w'.heap.size) (fun x => Dk x K n W m rows ws) w' ∧ Below w.heap.size w w'
theorem RetD0.dk {w w' : World} {n : Nat} {rows : List (List Int)} {e : Ending} (h : RetD0 w n rows e w') (hn : 1 ≤ n ∧ n ≤ 40) (hr : rowsL rows) : RetDk w n 0 rows [] id e w' := by
  obtain ⟨K, c, vs, rfl, hO, hb⟩ := h
  exact ⟨K, c, none, 0, rfl, hO.on.map (fun v hv => hv.dk hn hr none), hb⟩
theorem RetD1.dk {w w' : World} {n : Nat} {rows : List (List Int)} {at_ : Int} {zs : List Int} {e : Ending} (h : RetD1 w n rows at_ zs e w') (hn : 1 ≤ n ∧ n ≤ 40) (hr : rowsL rows) (ha : 0 ≤ at_ ∧ at_ < n) (hz : rowL zs) : RetDk w n 1 rows [(at_, zs)] id e w' := by
  obtain ⟨K, c, vs, W, d, u, mid, rfl, hO, hW, hm, _, hb⟩ := h
  exact ⟨K, c, W, d, rfl, (hO.on.and (hW.on.sub (Rg.sub hm (Nat.le_refl _)))).map (fun v hv => hv.1.dk1 hv.2 hn hr ha hz), hb⟩
theorem rowsL.set {rows : List (List Int)} (h : rowsL rows) (a : Nat) {zs : List Int} (hz : rowL zs) : rowsL (rows.set a zs) := fun r hr => by
  rcases mem_set_or hr with h1 | h1
  · exact h r h1
  · subst h1; exact hz
end Go.Proofs.YtbheflinchabgaaGreatDoor
namespace Go.Proofs.YtbheflinchabgaaGreatDoor
set_option linter.unusedSimpArgs false
set_option linter.unusedVariables false
attribute [local go_sem] n_lt2 n_lt3 n_lt4 n_le2 n_le3
open Go.RowKit
attribute [local go_sem] Ext.cell Ext.frozen
theorem OwnK.agrF {S : Nat → Prop} {w w' : World} {lo E : Nat} {K : Option Addr} {n c : Nat} {rows : List (List Int)} {vs : List Value} (h : OwnK w lo E K n c rows vs) (ha : Agr S w w') (hK : ∀ a, K = some a → S a.block) (hv : ∀ v ∈ vs, ∀ A n c, v = .slice A n c → ∀ a, A = some a → S a.block) : OwnK w' lo E K n c rows vs :=
  ⟨h.r.agr ha hK, h.s.agr ha hv, h.a, h.l⟩
/-- Where the rows lie. -/
structure InK (lo hi : Nat) (K : Option Addr) (vs : List Value) : Prop where
  k : ∀ a, K = some a → lo ≤ a.block ∧ a.block < hi
  v : ∀ v ∈ vs, ∀ A n c, v = .slice A n c → ∀ a, A = some a → lo ≤ a.block ∧ a.block < hi
theorem OwnK.inK {w : World} {lo E : Nat} {K : Option Addr} {n c : Nat} {rows : List (List Int)} {vs : List Value} (h : OwnK w lo E K n c rows vs) : InK lo w.heap.size K vs :=
  ⟨fun a ha => ⟨h.r.ge a ha, h.r.lt a ha⟩, h.rg⟩
theorem On.ownSet {S T : Nat → Prop} {w : World} {lo hi E : Nat} {kb n c a : Nat} {rows : List (List Int)} {vs : List Value} {u : Value} {zs : List Int} (h : On S (fun x => OwnK x lo E (some ⟨kb, 0, none⟩) n c rows vs) w) (hi_ : InK lo hi (some ⟨kb, 0, none⟩) vs) (hST : ∀ k, Rg lo hi k → T k)
    (ha : a < n) (hu : Rw w u zs) (hul : ∀ A m d, u = .slice A m d → ∀ p, A = some p → lo ≤ p.block ∧ p.block ≠ kb ∧ T p.block) :
    On T (fun x => OwnK x lo E (some ⟨kb, 0, none⟩) n c (rows.set a zs) (vs.set a u)) (w.setCell ⟨kb, a, none⟩ u) := fun w' hag => by
  have h1 := h.out.set rfl ha hu (fun A m d he p hp => ⟨(hul A m d he p hp).1, (hul A m d he p hp).2.1⟩)
  refine h1.agrF hag (fun p hp => hST _ (hi_.k p hp)) (fun v hv A n c he p hp => ?_)
  rcases mem_set_or hv with h2 | h2
  · exact hST _ (hi_.v v h2 A n c he p hp)
  · subst h2
    exact (hul A n c he p hp).2.2
theorem On.cellK {S : Nat → Prop} {w : World} {lo E : Nat} {kb n c a : Nat} {rows : List (List Int)} {vs : List Value} (h : On S (fun x => OwnK x lo E (some ⟨kb, 0, none⟩) n c rows vs) w) (ha : a < n) : kb < w.heap.size ∧ (∃ y, w.cell? ⟨kb, a, none⟩ = some y) ∧ w.frozen? ⟨kb, a, none⟩ = false := by
  obtain ⟨kb', cur, e1, h1, h2, h3, h4, h5, h6, h7⟩ := h.out.block (by omega)
  injection e1 with e1
  injection e1 with e1
  subst e1
  exact ⟨h2, h3.has (by omega), h3.frozen a⟩
set_option maxRecDepth 100000 in
set_option maxHeartbeats 4000000 in
theorem synced_none (K W : Option Addr) (n c d : Nat) (rows : List (List Int)) (w : World) (h : Dk w K n W 0 rows []) :
    Calls Tryz.prog 92 #[.agg #[.slice K n c, .slice W 0 d]] w (RetDk w n 0 rows [] id) := by
  have hn := h.hn
  have HR := Lib.hid h.r
  have HID : Hid (On (Rg 0 w.heap.size) (fun x => Dk x K n W 0 rows []) w) := Lib.hid (On.below_of (fun _ hb => (h).below hb))
  clear h
  go_enter Tryz.func92, Tryz.ntmps92
  go_wp2_with fail
  refine calls_named ?_
  rintro v0 hv0
  have f0 : Below w.heap.size w v0 := by rw [hv0]; (repeat' (first | (with_reducible exact Below.refl _ _) | (with_reducible assumption) | (with_reducible refine Below.alloc ?_ ?_ _) | (with_reducible refine Below.drew ?_) | (with_reducible refine Below.setCell ?_ ?_ _) | (with_reducible refine bstep (by assumption) ?_ ?_) | (with_reducible exact Nat.le_refl _) | omega | (simp [*]; done) | (simp [*]; omega)))
  have z0 : w.heap.size + 2 ≤ v0.heap.size := by rw [hv0]; simp [size_set]
  have HB_0 : Hid (Blk v0 w.heap.size 40 #[.slice K n c, .slice W 0 d]) := by rw [hv0]; exact Lib.hid (((Blk.new_at _ _ _ _ (by simp [size_set]))).alloc _)
  have HR_0 : Hid (Blk v0 (w.heap.size + 1) 40 #[.slice none 0 0, .slice none 0 0]) := by rw [hv0]; exact Lib.hid ((Blk.new_at _ _ _ _ (by simp [size_set])))
  clear hv0
  obtain ⟨gR, hgR⟩ : ∃ q, q = w.heap.size + 1 := ⟨_, rfl⟩
  rw [← hgR] at HR_0
  try rw [← hgR]
  have lgR : w.heap.size ≤ gR := by omega
  have mgR : gR < v0.heap.size := by omega
  have ngR : ∀ k, w.heap.size ≤ k → k ≠ gR → True := fun _ _ _ => trivial
  clear ngR
  obtain ⟨gB, hgB⟩ : ∃ q, q = w.heap.size := ⟨_, rfl⟩
  rw [← hgB] at HB_0
  try rw [← hgB]
  have lgB : w.heap.size ≤ gB := by omega
  have mgB : gB < v0.heap.size := by omega
  have ngB : ∀ k, w.heap.size ≤ k → k ≠ gB → True := fun _ _ _ => trivial
  clear ngB
  have nnBR : gB < gR := by omega
  clear hgB
  clear hgR
  refine (((HID.out).inB f0 (fun _ hk => hk.2)).out.ok).mono ?_
  rintro e v1 ⟨rfl, b1⟩
  have f1 := bthen f0 b1
  have z1 := b1.size
  have HB_1 := Lib.hid (HB_0.out.below b1)
  have HR_1 := Lib.hid (HR_0.out.below b1)
  clear HB_0 HR_0
  have lt_B := HB_1.out.lt
  have r_B0 : v1.cell? ⟨gB, 0, none⟩ = some (.slice K n c) := HB_1.out.cell 0
  have r_B1 : v1.cell? ⟨gB, 1, none⟩ = some (.slice W 0 d) := HB_1.out.cell 1
  go_wp2_with fail
  refine (copyDisk_none K W n c d rows v1 ((HID.out).inB f1 (fun _ hk => hk.2)).out).mono ?_
  rintro e v2 ⟨K', c', vs, rfl, hO, b2⟩
  have f2 := bthen f1 b2
  have z2 := b2.size
  have HB_2 := Lib.hid (HB_1.out.below b2)
  have HR_2 := Lib.hid (HR_1.out.below b2)
  clear lt_B r_B0 r_B1
  clear HB_1 HR_1
  have HO_2 := Lib.hid (show On (Rg v1.heap.size v2.heap.size) (fun x => OwnK x v1.heap.size 59 K' n c' rows vs) v2 from hO.on)
  clear hO
  go_upto_region 4 with fail
  obtain ⟨v3, hv3⟩ : ∃ x : World, x = (v2.alloc (.cells #[(.slice K' n c'), .slice none 0 0] 40)) := ⟨_, rfl⟩
  rw [← hv3]
  have f3 : Below w.heap.size w v3 := by rw [hv3]; (repeat' (first | (with_reducible exact Below.refl _ _) | (with_reducible assumption) | (with_reducible refine Below.alloc ?_ ?_ _) | (with_reducible refine Below.drew ?_) | (with_reducible refine Below.setCell ?_ ?_ _) | (with_reducible refine bstep (by assumption) ?_ ?_) | (with_reducible exact Nat.le_refl _) | omega | (simp [*]; done) | (simp [*]; omega)))
  have z3 : v2.heap.size + 1 ≤ v3.heap.size := by rw [hv3]; simp [size_set]
  have HB_3 : Hid (Blk v3 gB 40 #[.slice K n c, .slice W 0 d]) := by rw [hv3]; exact Lib.hid ((HB_2.out).alloc _)
  have HR_3 : Hid (Blk v3 gR 40 #[.slice none 0 0, .slice none 0 0]) := by rw [hv3]; exact Lib.hid ((HR_2.out).alloc _)
  have HO_3 : Hid (On (Rg v1.heap.size v2.heap.size) (fun x => OwnK x v1.heap.size 59 K' n c' rows vs) v3) := by rw [hv3]; exact Lib.hid ((HO_2.out).alloc _)
  have HU_3 : Hid (Blk v3 v2.heap.size 40 #[(.slice K' n c'), .slice none 0 0]) := by rw [hv3]; exact Lib.hid ((Blk.new_at _ _ _ _ (by simp [size_set])))
  clear hv3 HB_2 HR_2 HO_2
  obtain ⟨gU, hgU⟩ : ∃ q, q = v2.heap.size := ⟨_, rfl⟩
  rw [← hgU] at HU_3
  try rw [← hgU]
  have lgU : v2.heap.size ≤ gU := by omega
  have mgU : gU < v3.heap.size := by omega
  have ngU : ∀ k, v2.heap.size ≤ k → k ≠ gU → True := fun _ _ _ => trivial
  clear ngU
  clear hgU
  have lt_U := HU_3.out.lt
  have r_U0 : v3.cell? ⟨gU, 0, none⟩ = some ((.slice K' n c')) := HU_3.out.cell 0
  have r_U1 : v3.cell? ⟨gU, 1, none⟩ = some (.slice none 0 0) := HU_3.out.cell 1
  have lt_R := HR_3.out.lt
  have r_R0 : v3.cell? ⟨gR, 0, none⟩ = some (.slice none 0 0) := HR_3.out.cell 0
  have r_R1 : v3.cell? ⟨gR, 1, none⟩ = some (.slice none 0 0) := HR_3.out.cell 1
  have z_U1 := HU_3.out.frozen 1
  have z_R0 := HR_3.out.frozen 0
  have z_R1 := HR_3.out.frozen 1
  go_wp2_with fail
  go_loopw [15] (fun iv wr => iv = .int .i64 0 ∧ v3 = wr) (fun _ _ => 0)
  case atStart => exact ⟨rfl, rfl⟩
  case round =>
    obtain ⟨rfl, rfl⟩ := hrel
    go_wp21
    refine bodyPost_ret (v := .agg #[.slice K' n c', .slice none 0 0]) (by simp [results, Tryz.results92, go_sem, *]) rfl ?_
    exact ⟨K', c', none, 0, rfl, (((((HO_3.out).far (g := gU) (Rg.no (by omega)) 1 _).far (g := gR) (Rg.no (by omega)) 0 _).far (g := gR) (Rg.no (by omega)) 1 _).sub (Rg.sub (by omega) (by simp only [size_set]; omega))).map (fun v hv => hv.dk hn HR.out none), (((f3).setCell (p := ⟨gU, 1, none⟩) (show w.heap.size ≤ gU by omega) _).setCell (p := ⟨gR, 0, none⟩) (show w.heap.size ≤ gR by omega) _).setCell (p := ⟨gR, 1, none⟩) (show w.heap.size ≤ gR by omega) _⟩
set_option maxRecDepth 100000 in
set_option maxHeartbeats 4000000 in
theorem synced_one (K W : Option Addr) (n c d : Nat) (rows : List (List Int)) (a : Nat) (zs : List Int) (w : World) (h : Dk w K n W 1 rows [((a : Int), zs)]) :
    Calls Tryz.prog 92 #[.agg #[.slice K n c, .slice W 1 d]] w (RetDk w n 0 (rows.set a zs) [] id) := by
  have hn := h.hn
  have HR := Lib.hid h.r
  have hz := h.x _ (List.mem_singleton.2 rfl)
  have ha : a < n := by have := hz.1.2; omega
  have HZ := Lib.hid hz.2
  clear hz
  have HID : Hid (On (Rg 0 w.heap.size) (fun x => Dk x K n W 1 rows [((a : Int), zs)]) w) := Lib.hid (On.below_of (fun _ hb => (h).below hb))
  clear h
  go_enter Tryz.func92, Tryz.ntmps92
  go_wp2_with fail
  refine calls_named ?_
  rintro v0 hv0
  have f0 : Below w.heap.size w v0 := by rw [hv0]; (repeat' (first | (with_reducible exact Below.refl _ _) | (with_reducible assumption) | (with_reducible refine Below.alloc ?_ ?_ _) | (with_reducible refine Below.drew ?_) | (with_reducible refine Below.setCell ?_ ?_ _) | (with_reducible refine bstep (by assumption) ?_ ?_) | (with_reducible exact Nat.le_refl _) | omega | (simp [*]; done) | (simp [*]; omega)))
  have z0 : w.heap.size + 2 ≤ v0.heap.size := by rw [hv0]; simp [size_set]
  have HB_0 : Hid (Blk v0 w.heap.size 40 #[.slice K n c, .slice W 1 d]) := by rw [hv0]; exact Lib.hid (((Blk.new_at _ _ _ _ (by simp [size_set]))).alloc _)
  have HR_0 : Hid (Blk v0 (w.heap.size + 1) 40 #[.slice none 0 0, .slice none 0 0]) := by rw [hv0]; exact Lib.hid ((Blk.new_at _ _ _ _ (by simp [size_set])))
  clear hv0
  obtain ⟨gR, hgR⟩ : ∃ q, q = w.heap.size + 1 := ⟨_, rfl⟩
  rw [← hgR] at HR_0
  try rw [← hgR]
  have lgR : w.heap.size ≤ gR := by omega
  have mgR : gR < v0.heap.size := by omega
  have ngR : ∀ k, w.heap.size ≤ k → k ≠ gR → True := fun _ _ _ => trivial
  clear ngR
  obtain ⟨gB, hgB⟩ : ∃ q, q = w.heap.size := ⟨_, rfl⟩
  rw [← hgB] at HB_0
  try rw [← hgB]
  have lgB : w.heap.size ≤ gB := by omega
  have mgB : gB < v0.heap.size := by omega
  have ngB : ∀ k, w.heap.size ≤ k → k ≠ gB → True := fun _ _ _ => trivial
  clear ngB
  have nnBR : gB < gR := by omega
  clear hgB
  clear hgR
  refine (((HID.out).inB f0 (fun _ hk => hk.2)).out.ok).mono ?_
  rintro e v1 ⟨rfl, b1⟩
  have f1 := bthen f0 b1
  have z1 := b1.size
  have HB_1 := Lib.hid (HB_0.out.below b1)
  have HR_1 := Lib.hid (HR_0.out.below b1)
  clear HB_0 HR_0
  have lt_B := HB_1.out.lt
  have r_B0 : v1.cell? ⟨gB, 0, none⟩ = some (.slice K n c) := HB_1.out.cell 0
  have r_B1 : v1.cell? ⟨gB, 1, none⟩ = some (.slice W 1 d) := HB_1.out.cell 1
  go_wp2_with fail
  refine (copyDisk_one K W n c d rows a zs v1 ((HID.out).inB f1 (fun _ hk => hk.2)).out).mono ?_
  rintro e v2 ⟨K', c', vs, W', d', u, mid, rfl, hO, hW, hm1, hm2, b2⟩
  obtain ⟨kb, cur, rfl, hk1, hk2, -, -, -, -, -⟩ := hO.block (by omega)
  have hkm := hm2 _ rfl
  have HIN := Lib.hid hO.inK
  clear hm2
  obtain ⟨bw, ow, rfl, hbw, hcw⟩ := hW.r.sl.at_ (by decide)
  obtain ⟨Ax, cx, rfl, -, -, -, -, -⟩ := hW.s
  generalize hzl : zs.length = m at *
  have hux := Lib.hid (fun p hp => (show mid ≤ p.block ∧ p.block < v2.heap.size from ⟨hW.l _ _ _ rfl p hp, hW.s.ltb _ _ _ rfl p hp⟩))
  have HW2 := Lib.hid hW
  have f2 := bthen f1 b2
  have z2 := b2.size
  have HB_2 := Lib.hid (HB_1.out.below b2)
  have HR_2 := Lib.hid (HR_1.out.below b2)
  clear lt_B r_B0 r_B1
  clear HB_1 HR_1
  have HO_2 := Lib.hid (show On (Rg v1.heap.size v2.heap.size) (fun x => OwnK x v1.heap.size 59 (some ⟨kb, 0, none⟩) n c' rows vs) v2 from hO.on)
  clear hO
  have HW_2 := Lib.hid (show On (Rg mid v2.heap.size) (fun x => OwnW x mid 216 (some ⟨bw, ow, none⟩) d' a (.slice Ax m cx) zs) v2 from hW.on)
  clear hW HW2 hcw
  go_upto_region 4 with fail
  obtain ⟨v3, hv3⟩ : ∃ x : World, x = (v2.alloc (.cells #[(.slice (some ⟨kb, 0, none⟩) n c'), (.slice (some ⟨bw, ow, none⟩) 1 d')] 40)) := ⟨_, rfl⟩
  rw [← hv3]
  have f3 : Below w.heap.size w v3 := by rw [hv3]; (repeat' (first | (with_reducible exact Below.refl _ _) | (with_reducible assumption) | (with_reducible refine Below.alloc ?_ ?_ _) | (with_reducible refine Below.drew ?_) | (with_reducible refine Below.setCell ?_ ?_ _) | (with_reducible refine bstep (by assumption) ?_ ?_) | (with_reducible exact Nat.le_refl _) | omega | (simp [*]; done) | (simp [*]; omega)))
  have z3 : v2.heap.size + 1 ≤ v3.heap.size := by rw [hv3]; simp [size_set]
  have HB_3 : Hid (Blk v3 gB 40 #[.slice K n c, .slice W 1 d]) := by rw [hv3]; exact Lib.hid ((HB_2.out).alloc _)
  have HR_3 : Hid (Blk v3 gR 40 #[.slice none 0 0, .slice none 0 0]) := by rw [hv3]; exact Lib.hid ((HR_2.out).alloc _)
  have HO_3 : Hid (On (Rg v1.heap.size v2.heap.size) (fun x => OwnK x v1.heap.size 59 (some ⟨kb, 0, none⟩) n c' rows vs) v3) := by rw [hv3]; exact Lib.hid ((HO_2.out).alloc _)
  have HW_3 : Hid (On (Rg mid v2.heap.size) (fun x => OwnW x mid 216 (some ⟨bw, ow, none⟩) d' a (.slice Ax m cx) zs) v3) := by rw [hv3]; exact Lib.hid ((HW_2.out).alloc _)
  have HU_3 : Hid (Blk v3 v2.heap.size 40 #[(.slice (some ⟨kb, 0, none⟩) n c'), (.slice (some ⟨bw, ow, none⟩) 1 d')]) := by rw [hv3]; exact Lib.hid ((Blk.new_at _ _ _ _ (by simp [size_set])))
  clear hv3 HB_2 HR_2 HO_2 HW_2
  obtain ⟨gU, hgU⟩ : ∃ q, q = v2.heap.size := ⟨_, rfl⟩
  rw [← hgU] at HU_3
  try rw [← hgU]
  have lgU : v2.heap.size ≤ gU := by omega
  have mgU : gU < v3.heap.size := by omega
  have ngU : ∀ k, v2.heap.size ≤ k → k ≠ gU → True := fun _ _ _ => trivial
  clear ngU
  clear hgU
  have lt_U := HU_3.out.lt
  have r_U0 : v3.cell? ⟨gU, 0, none⟩ = some ((.slice (some ⟨kb, 0, none⟩) n c')) := HU_3.out.cell 0
  have r_U1 : v3.cell? ⟨gU, 1, none⟩ = some ((.slice (some ⟨bw, ow, none⟩) 1 d')) := HU_3.out.cell 1
  go_wp2_with fail
  clear lt_U r_U0 r_U1
  go_loopw [15] (fun iv wr => (iv = .int .i64 0 ∧ v3 = wr) ∨ (iv = .int .i64 1 ∧ Hid (Blk wr gU 40 #[.slice (some ⟨kb, 0, none⟩) n c', .slice (some ⟨bw, ow, none⟩) 1 d']) ∧ Hid (Blk wr gR 40 #[.slice none 0 0, .slice none 0 0]) ∧ Hid (On (Rg v1.heap.size v2.heap.size) (fun x => OwnK x v1.heap.size 59 (some ⟨kb, 0, none⟩) n c' (rows.set a zs) (vs.set a (.slice Ax m cx))) wr) ∧ Hid (Below w.heap.size w wr) ∧ v3.heap.size ≤ wr.heap.size)) (fun iv _ => 1 - (intOf iv).toNat)
  case atStart => exact .inl ⟨rfl, rfl⟩
  case round =>
    rcases hrel with ⟨rfl, rfl⟩ | ⟨rfl, HU, HRR, HO, HF, hsz⟩
    · obtain ⟨b', o', hA, hb, hcc⟩ := HW_3.out.out.r.sl.at_ (by decide)
      injection hA with hA
      injection hA with h1 h2
      subst h1 h2
      have hc0 := hcc 0 (by decide)
      have hc1 := hcc 1 (by decide)
      simp only [Nat.add_zero, List.getElem?_cons_zero, List.getElem?_cons_succ] at hc0 hc1
      clear hcc
      go_upto_region 7 with fail
      obtain ⟨v4, hv4⟩ : ∃ x : World, x = (v3.alloc (.cells #[.int .i64 a, .slice Ax m cx] 216)) := ⟨_, rfl⟩
      rw [← hv4]
      have f4 : Below w.heap.size w v4 := by rw [hv4]; (repeat' (first | (with_reducible exact Below.refl _ _) | (with_reducible assumption) | (with_reducible refine Below.alloc ?_ ?_ _) | (with_reducible refine Below.drew ?_) | (with_reducible refine Below.setCell ?_ ?_ _) | (with_reducible refine bstep (by assumption) ?_ ?_) | (with_reducible exact Nat.le_refl _) | omega | (simp [*]; done) | (simp [*]; omega)))
      have z4 : v3.heap.size + 1 ≤ v4.heap.size := by rw [hv4]; simp [size_set]
      have HB_4 : Hid (Blk v4 gB 40 #[.slice K n c, .slice W 1 d]) := by rw [hv4]; exact Lib.hid ((HB_3.out).alloc _)
      have HR_4 : Hid (Blk v4 gR 40 #[.slice none 0 0, .slice none 0 0]) := by rw [hv4]; exact Lib.hid ((HR_3.out).alloc _)
      have HO_4 : Hid (On (Rg v1.heap.size v2.heap.size) (fun x => OwnK x v1.heap.size 59 (some ⟨kb, 0, none⟩) n c' rows vs) v4) := by rw [hv4]; exact Lib.hid ((HO_3.out).alloc _)
      have HW_4 : Hid (On (Rg mid v2.heap.size) (fun x => OwnW x mid 216 (some ⟨bw, ow, none⟩) d' a (.slice Ax m cx) zs) v4) := by rw [hv4]; exact Lib.hid ((HW_3.out).alloc _)
      have HU_4 : Hid (Blk v4 gU 40 #[(.slice (some ⟨kb, 0, none⟩) n c'), (.slice (some ⟨bw, ow, none⟩) 1 d')]) := by rw [hv4]; exact Lib.hid ((HU_3.out).alloc _)
      have HL_4 : Hid (Blk v4 v3.heap.size 216 #[.int .i64 a, .slice Ax m cx]) := by rw [hv4]; exact Lib.hid ((Blk.new_at _ _ _ _ (by simp [size_set])))
      clear hv4 HB_3 HR_3 HO_3 HW_3 HU_3
      obtain ⟨gL, hgL⟩ : ∃ q, q = v3.heap.size := ⟨_, rfl⟩
      rw [← hgL] at HL_4
      try rw [← hgL]
      have lgL : v3.heap.size ≤ gL := by omega
      have mgL : gL < v4.heap.size := by omega
      have ngL : ∀ k, v3.heap.size ≤ k → k ≠ gL → True := fun _ _ _ => trivial
      clear ngL
      clear hgL
      clear hc0 hc1
      have lt_U := HU_4.out.lt
      have r_U0 : v4.cell? ⟨gU, 0, none⟩ = some ((.slice (some ⟨kb, 0, none⟩) n c')) := HU_4.out.cell 0
      have r_U1 : v4.cell? ⟨gU, 1, none⟩ = some ((.slice (some ⟨bw, ow, none⟩) 1 d')) := HU_4.out.cell 1
      have lt_L := HL_4.out.lt
      have r_L0 : v4.cell? ⟨gL, 0, none⟩ = some (.int .i64 a) := HL_4.out.cell 0
      have r_L1 : v4.cell? ⟨gL, 1, none⟩ = some (.slice Ax m cx) := HL_4.out.cell 1
      obtain ⟨lk, ⟨yk, hyk⟩, hfk⟩ := HO_4.out.cellK ha
      have ha2 : (a : Int) < (n : Int) := by omega
      have hend := HO_4.out.ownSet (T := Rg v1.heap.size v2.heap.size) (hi := v2.heap.size) HIN.out (fun _ h => h) ha HW_4.out.out.s (fun A m d he p hp => by injection he with h1; rw [← h1] at hp; have := hux.out p hp; exact ⟨by omega, by omega, by omega, by omega⟩)
      go_wp2_with fail
      exact ⟨.inr ⟨rfl, Lib.hid (HU_4.out.far (p := ⟨kb, a, none⟩) (by show gU ≠ kb; omega) _), Lib.hid (HR_4.out.far (p := ⟨kb, a, none⟩) (by show gR ≠ kb; omega) _), Lib.hid hend, Lib.hid (f4.setCell (p := ⟨kb, a, none⟩) (by show w.heap.size ≤ kb; omega) _), by simp only [size_set]; omega⟩, by simp [intOf]⟩
    · have KU := HU.out
      have KR := HRR.out
      have r_U0 : wr.cell? ⟨gU, 0, none⟩ = some (.slice (some ⟨kb, 0, none⟩) n c') := KU.cell 0
      have r_U1 : wr.cell? ⟨gU, 1, none⟩ = some (.slice (some ⟨bw, ow, none⟩) 1 d') := KU.cell 1
      have lt_U := KU.lt
      have z_U1 := KU.frozen 1
      have lt_R := KR.lt
      have r_R0 := KR.cell 0
      have r_R1 := KR.cell 1
      have z_R0 := KR.frozen 0
      have z_R1 := KR.frozen 1
      clear KU KR
      go_wp21
      refine bodyPost_ret (v := .agg #[.slice (some ⟨kb, 0, none⟩) n c', .slice none 0 0]) (by simp [results, Tryz.results92, go_sem, *]) rfl ?_
      exact ⟨_, c', none, 0, rfl, (((((HO.out).far (g := gU) (Rg.no (by omega)) 1 _).far (g := gR) (Rg.no (by omega)) 0 _).far (g := gR) (Rg.no (by omega)) 1 _).sub (Rg.sub (by omega) (by simp only [size_set]; omega))).map (fun v hv => hv.dk hn (HR.out.set a HZ.out) none), ((HF.out.setCell (p := ⟨gU, 1, none⟩) (show w.heap.size ≤ gU by omega) _).setCell (p := ⟨gR, 0, none⟩) (show w.heap.size ≤ gR by omega) _).setCell (p := ⟨gR, 1, none⟩) (show w.heap.size ≤ gR by omega) _⟩
end Go.Proofs.YtbheflinchabgaaGreatDoor
namespace Go.Proofs.YtbheflinchabgaaGreatDoor
set_option linter.unusedSimpArgs false
set_option linter.unusedVariables false
attribute [local go_sem] n_lt2 n_lt3 n_lt4 n_le2 n_le3
open Go.RowKit
attribute [local go_sem] Ext.cell Ext.frozen
/-- What a crash leaves of rows with one waiting write. -/
def FallR (rows : List (List Int)) (a : Nat) (zs : List Int) (rows' : List (List Int)) : Prop := rows' = rows ∨ rows' = rows.set a zs ∨ rows' = rows.set a (tornL zs (rows.getD a []))
theorem torn_row {zs os : List Int} (h : rowL zs) (ho : os.length ≤ zs.length / 2) : rowL (tornL zs os) := by
  unfold tornL
  rw [if_neg (by omega), List.append_nil]
  exact ⟨by rw [List.length_take]; have := h.1; omega, fun x hx => h.2 x (List.mem_of_mem_take hx)⟩
set_option maxRecDepth 100000 in
set_option maxHeartbeats 4000000 in
theorem fallen_none (K W F : Option Addr) (n c d nf cf : Nat) (rows : List (List Int)) (w : World) (h : Dk w K n W 0 rows []) :
    Calls Tryz.prog 90 #[.agg #[.slice K n c, .slice W 0 d], .slice F nf cf] w (RetDk w n 0 rows [] id) := by
  have hn := h.hn
  have HR := Lib.hid h.r
  have HID : Hid (On (Rg 0 w.heap.size) (fun x => Dk x K n W 0 rows []) w) := Lib.hid (On.below_of (fun _ hb => (h).below hb))
  clear h
  go_enter Tryz.func90, Tryz.ntmps90
  go_wp2_with fail
  refine calls_named ?_
  rintro v0 hv0
  have f0 : Below w.heap.size w v0 := by rw [hv0]; (repeat' (first | (with_reducible exact Below.refl _ _) | (with_reducible assumption) | (with_reducible refine Below.alloc ?_ ?_ _) | (with_reducible refine Below.drew ?_) | (with_reducible refine Below.setCell ?_ ?_ _) | (with_reducible refine bstep (by assumption) ?_ ?_) | (with_reducible exact Nat.le_refl _) | omega | (simp [*]; done) | (simp [*]; omega)))
  have z0 : w.heap.size + 2 ≤ v0.heap.size := by rw [hv0]; simp [size_set]
  have HB_0 : Hid (Blk v0 w.heap.size 40 #[.slice K n c, .slice W 0 d]) := by rw [hv0]; exact Lib.hid (((Blk.new_at _ _ _ _ (by simp [size_set]))).alloc _)
  have HR_0 : Hid (Blk v0 (w.heap.size + 1) 40 #[.slice none 0 0, .slice none 0 0]) := by rw [hv0]; exact Lib.hid ((Blk.new_at _ _ _ _ (by simp [size_set])))
  clear hv0
  obtain ⟨gR, hgR⟩ : ∃ q, q = w.heap.size + 1 := ⟨_, rfl⟩
  rw [← hgR] at HR_0
  try rw [← hgR]
  have lgR : w.heap.size ≤ gR := by omega
  have mgR : gR < v0.heap.size := by omega
  have ngR : ∀ k, w.heap.size ≤ k → k ≠ gR → True := fun _ _ _ => trivial
  clear ngR
  obtain ⟨gB, hgB⟩ : ∃ q, q = w.heap.size := ⟨_, rfl⟩
  rw [← hgB] at HB_0
  try rw [← hgB]
  have lgB : w.heap.size ≤ gB := by omega
  have mgB : gB < v0.heap.size := by omega
  have ngB : ∀ k, w.heap.size ≤ k → k ≠ gB → True := fun _ _ _ => trivial
  clear ngB
  have nnBR : gB < gR := by omega
  clear hgB
  clear hgR
  refine (((HID.out).inB f0 (fun _ hk => hk.2)).out.ok).mono ?_
  rintro e v1 ⟨rfl, b1⟩
  have f1 := bthen f0 b1
  have z1 := b1.size
  have HB_1 := Lib.hid (HB_0.out.below b1)
  have HR_1 := Lib.hid (HR_0.out.below b1)
  clear HB_0 HR_0
  have lt_B := HB_1.out.lt
  have r_B0 : v1.cell? ⟨gB, 0, none⟩ = some (.slice K n c) := HB_1.out.cell 0
  have r_B1 : v1.cell? ⟨gB, 1, none⟩ = some (.slice W 0 d) := HB_1.out.cell 1
  go_wp2_with fail
  refine (copyDisk_none K W n c d rows v1 ((HID.out).inB f1 (fun _ hk => hk.2)).out).mono ?_
  rintro e v2 ⟨K', c', vs, rfl, hO, b2⟩
  have f2 := bthen f1 b2
  have z2 := b2.size
  have HB_2 := Lib.hid (HB_1.out.below b2)
  have HR_2 := Lib.hid (HR_1.out.below b2)
  clear lt_B r_B0 r_B1
  clear HB_1 HR_1
  have HO_2 := Lib.hid (show On (Rg v1.heap.size v2.heap.size) (fun x => OwnK x v1.heap.size 59 K' n c' rows vs) v2 from hO.on)
  clear hO
  go_upto_region 4 with fail
  obtain ⟨v3, hv3⟩ : ∃ x : World, x = (v2.alloc (.cells #[(.slice K' n c'), .slice none 0 0] 40)) := ⟨_, rfl⟩
  rw [← hv3]
  have f3 : Below w.heap.size w v3 := by rw [hv3]; (repeat' (first | (with_reducible exact Below.refl _ _) | (with_reducible assumption) | (with_reducible refine Below.alloc ?_ ?_ _) | (with_reducible refine Below.drew ?_) | (with_reducible refine Below.setCell ?_ ?_ _) | (with_reducible refine bstep (by assumption) ?_ ?_) | (with_reducible exact Nat.le_refl _) | omega | (simp [*]; done) | (simp [*]; omega)))
  have z3 : v2.heap.size + 1 ≤ v3.heap.size := by rw [hv3]; simp [size_set]
  have HB_3 : Hid (Blk v3 gB 40 #[.slice K n c, .slice W 0 d]) := by rw [hv3]; exact Lib.hid ((HB_2.out).alloc _)
  have HR_3 : Hid (Blk v3 gR 40 #[.slice none 0 0, .slice none 0 0]) := by rw [hv3]; exact Lib.hid ((HR_2.out).alloc _)
  have HO_3 : Hid (On (Rg v1.heap.size v2.heap.size) (fun x => OwnK x v1.heap.size 59 K' n c' rows vs) v3) := by rw [hv3]; exact Lib.hid ((HO_2.out).alloc _)
  have HU_3 : Hid (Blk v3 v2.heap.size 40 #[(.slice K' n c'), .slice none 0 0]) := by rw [hv3]; exact Lib.hid ((Blk.new_at _ _ _ _ (by simp [size_set])))
  clear hv3 HB_2 HR_2 HO_2
  obtain ⟨gU, hgU⟩ : ∃ q, q = v2.heap.size := ⟨_, rfl⟩
  rw [← hgU] at HU_3
  try rw [← hgU]
  have lgU : v2.heap.size ≤ gU := by omega
  have mgU : gU < v3.heap.size := by omega
  have ngU : ∀ k, v2.heap.size ≤ k → k ≠ gU → True := fun _ _ _ => trivial
  clear ngU
  clear hgU
  have lt_U := HU_3.out.lt
  have r_U0 : v3.cell? ⟨gU, 0, none⟩ = some ((.slice K' n c')) := HU_3.out.cell 0
  have r_U1 : v3.cell? ⟨gU, 1, none⟩ = some (.slice none 0 0) := HU_3.out.cell 1
  have lt_R := HR_3.out.lt
  have r_R0 : v3.cell? ⟨gR, 0, none⟩ = some (.slice none 0 0) := HR_3.out.cell 0
  have r_R1 : v3.cell? ⟨gR, 1, none⟩ = some (.slice none 0 0) := HR_3.out.cell 1
  have z_U1 := HU_3.out.frozen 1
  have z_R0 := HR_3.out.frozen 0
  have z_R1 := HR_3.out.frozen 1
  go_wp2_with fail
  go_loopw [19] (fun iv wr => iv = .int .i64 0 ∧ v3 = wr) (fun _ _ => 0)
  case atStart => exact ⟨rfl, rfl⟩
  case round =>
    obtain ⟨rfl, rfl⟩ := hrel
    go_wp21
    refine bodyPost_ret (v := .agg #[.slice K' n c', .slice none 0 0]) (by simp [results, Tryz.results90, go_sem, *]) rfl ?_
    exact ⟨K', c', none, 0, rfl, (((((HO_3.out).far (g := gU) (Rg.no (by omega)) 1 _).far (g := gR) (Rg.no (by omega)) 0 _).far (g := gR) (Rg.no (by omega)) 1 _).sub (Rg.sub (by omega) (by simp only [size_set]; omega))).map (fun v hv => hv.dk hn HR.out none), (((f3).setCell (p := ⟨gU, 1, none⟩) (show w.heap.size ≤ gU by omega) _).setCell (p := ⟨gR, 0, none⟩) (show w.heap.size ≤ gR by omega) _).setCell (p := ⟨gR, 1, none⟩) (show w.heap.size ≤ gR by omega) _⟩
set_option maxRecDepth 100000 in
set_option maxHeartbeats 8000000 in
theorem fallen_one (K W F : Option Addr) (n c d nf cf : Nat) (rows : List (List Int)) (a : Nat) (zs fs : List Int) (w : World) (h : Dk w K n W 1 rows [((a : Int), zs)]) (hF : Sl w 1 F nf fs) (hz0 : 0 < zs.length) (ho : (rows.getD a []).length ≤ zs.length / 2) :
    Calls Tryz.prog 90 #[.agg #[.slice K n c, .slice W 1 d], .slice F nf cf] w (fun e w' => ∃ rows', FallR rows a zs rows' ∧ RetDk w n 0 rows' [] id e w') := by
  have hn := h.hn
  have HR := Lib.hid h.r
  have hz := h.x _ (List.mem_singleton.2 rfl)
  have ha : a < n := by have := hz.1.2; omega
  have hrl := h.k.len
  have HZ := Lib.hid hz.2
  have HT := Lib.hid (torn_row hz.2 ho)
  have HO := Lib.hid ho
  clear hz ho
  have HID : Hid (On (Rg 0 w.heap.size) (fun x => Dk x K n W 1 rows [((a : Int), zs)]) w) := Lib.hid (On.below_of (fun _ hb => (h).below hb))
  clear h
  have HIF : Hid (On (Rg 0 w.heap.size) (fun x => Sl x 1 F nf fs) w) := Lib.hid (On.below_of (fun _ hb => (hF).below hb))
  clear hF
  go_enter Tryz.func90, Tryz.ntmps90
  go_wp2_with fail
  refine calls_named ?_
  rintro v0 hv0
  have f0 : Below w.heap.size w v0 := by rw [hv0]; (repeat' (first | (with_reducible exact Below.refl _ _) | (with_reducible assumption) | (with_reducible refine Below.alloc ?_ ?_ _) | (with_reducible refine Below.drew ?_) | (with_reducible refine Below.setCell ?_ ?_ _) | (with_reducible refine bstep (by assumption) ?_ ?_) | (with_reducible exact Nat.le_refl _) | omega | (simp [*]; done) | (simp [*]; omega)))
  have z0 : w.heap.size + 2 ≤ v0.heap.size := by rw [hv0]; simp [size_set]
  have HB_0 : Hid (Blk v0 w.heap.size 40 #[.slice K n c, .slice W 1 d]) := by rw [hv0]; exact Lib.hid (((Blk.new_at _ _ _ _ (by simp [size_set]))).alloc _)
  have HR_0 : Hid (Blk v0 (w.heap.size + 1) 40 #[.slice none 0 0, .slice none 0 0]) := by rw [hv0]; exact Lib.hid ((Blk.new_at _ _ _ _ (by simp [size_set])))
  clear hv0
  obtain ⟨gR, hgR⟩ : ∃ q, q = w.heap.size + 1 := ⟨_, rfl⟩
  rw [← hgR] at HR_0
  try rw [← hgR]
  have lgR : w.heap.size ≤ gR := by omega
  have mgR : gR < v0.heap.size := by omega
  have ngR : ∀ k, w.heap.size ≤ k → k ≠ gR → True := fun _ _ _ => trivial
  clear ngR
  obtain ⟨gB, hgB⟩ : ∃ q, q = w.heap.size := ⟨_, rfl⟩
  rw [← hgB] at HB_0
  try rw [← hgB]
  have lgB : w.heap.size ≤ gB := by omega
  have mgB : gB < v0.heap.size := by omega
  have ngB : ∀ k, w.heap.size ≤ k → k ≠ gB → True := fun _ _ _ => trivial
  clear ngB
  have nnBR : gB < gR := by omega
  clear hgB
  clear hgR
  refine (((HID.out).inB f0 (fun _ hk => hk.2)).out.ok).mono ?_
  rintro e v1 ⟨rfl, b1⟩
  have f1 := bthen f0 b1
  have z1 := b1.size
  have HB_1 := Lib.hid (HB_0.out.below b1)
  have HR_1 := Lib.hid (HR_0.out.below b1)
  clear HB_0 HR_0
  have lt_B := HB_1.out.lt
  have r_B0 : v1.cell? ⟨gB, 0, none⟩ = some (.slice K n c) := HB_1.out.cell 0
  have r_B1 : v1.cell? ⟨gB, 1, none⟩ = some (.slice W 1 d) := HB_1.out.cell 1
  go_wp2_with fail
  refine (copyDisk_one K W n c d rows a zs v1 ((HID.out).inB f1 (fun _ hk => hk.2)).out).mono ?_
  rintro e v2 ⟨K', c', vs, W', d', u, mid, rfl, hO, hW, hm1, hm2, b2⟩
  obtain ⟨kb, cur, rfl, hk1, hk2, -, -, -, -, -⟩ := hO.block (by omega)
  have hkm := hm2 _ rfl
  have HIN := Lib.hid hO.inK
  clear hm2
  obtain ⟨bw, ow, rfl, hbw, hcw⟩ := hW.r.sl.at_ (by decide)
  obtain ⟨Ax, cx, rfl, -, -, -, -, -⟩ := hW.s
  have hux := Lib.hid (fun p hp => (show mid ≤ p.block ∧ p.block < v2.heap.size from ⟨hW.l _ _ _ rfl p hp, hW.s.ltb _ _ _ rfl p hp⟩))
  have f2 := bthen f1 b2
  have z2 := b2.size
  have HB_2 := Lib.hid (HB_1.out.below b2)
  have HR_2 := Lib.hid (HR_1.out.below b2)
  clear lt_B r_B0 r_B1
  clear HB_1 HR_1
  have HO_2 := Lib.hid (show On (Rg v1.heap.size v2.heap.size) (fun x => OwnK x v1.heap.size 59 (some ⟨kb, 0, none⟩) n c' rows vs) v2 from hO.on)
  clear hO
  have HW_2 := Lib.hid (show On (Rg mid v2.heap.size) (fun x => OwnW x mid 216 (some ⟨bw, ow, none⟩) d' a (.slice Ax zs.length cx) zs) v2 from hW.on)
  clear hW hcw
  go_upto_region 4 with fail
  obtain ⟨v3, hv3⟩ : ∃ x : World, x = (v2.alloc (.cells #[(.slice (some ⟨kb, 0, none⟩) n c'), (.slice (some ⟨bw, ow, none⟩) 1 d')] 40)) := ⟨_, rfl⟩
  rw [← hv3]
  have f3 : Below w.heap.size w v3 := by rw [hv3]; (repeat' (first | (with_reducible exact Below.refl _ _) | (with_reducible assumption) | (with_reducible refine Below.alloc ?_ ?_ _) | (with_reducible refine Below.drew ?_) | (with_reducible refine Below.setCell ?_ ?_ _) | (with_reducible refine bstep (by assumption) ?_ ?_) | (with_reducible exact Nat.le_refl _) | omega | (simp [*]; done) | (simp [*]; omega)))
  have z3 : v2.heap.size + 1 ≤ v3.heap.size := by rw [hv3]; simp [size_set]
  have HB_3 : Hid (Blk v3 gB 40 #[.slice K n c, .slice W 1 d]) := by rw [hv3]; exact Lib.hid ((HB_2.out).alloc _)
  have HR_3 : Hid (Blk v3 gR 40 #[.slice none 0 0, .slice none 0 0]) := by rw [hv3]; exact Lib.hid ((HR_2.out).alloc _)
  have HO_3 : Hid (On (Rg v1.heap.size v2.heap.size) (fun x => OwnK x v1.heap.size 59 (some ⟨kb, 0, none⟩) n c' rows vs) v3) := by rw [hv3]; exact Lib.hid ((HO_2.out).alloc _)
  have HW_3 : Hid (On (Rg mid v2.heap.size) (fun x => OwnW x mid 216 (some ⟨bw, ow, none⟩) d' a (.slice Ax zs.length cx) zs) v3) := by rw [hv3]; exact Lib.hid ((HW_2.out).alloc _)
  have HU_3 : Hid (Blk v3 v2.heap.size 40 #[(.slice (some ⟨kb, 0, none⟩) n c'), (.slice (some ⟨bw, ow, none⟩) 1 d')]) := by rw [hv3]; exact Lib.hid ((Blk.new_at _ _ _ _ (by simp [size_set])))
  clear hv3 HB_2 HR_2 HO_2 HW_2
  obtain ⟨gU, hgU⟩ : ∃ q, q = v2.heap.size := ⟨_, rfl⟩
  rw [← hgU] at HU_3
  try rw [← hgU]
  have lgU : v2.heap.size ≤ gU := by omega
  have mgU : gU < v3.heap.size := by omega
  have ngU : ∀ k, v2.heap.size ≤ k → k ≠ gU → True := fun _ _ _ => trivial
  clear ngU
  clear hgU
  have lt_U := HU_3.out.lt
  have r_U0 : v3.cell? ⟨gU, 0, none⟩ = some ((.slice (some ⟨kb, 0, none⟩) n c')) := HU_3.out.cell 0
  have r_U1 : v3.cell? ⟨gU, 1, none⟩ = some ((.slice (some ⟨bw, ow, none⟩) 1 d')) := HU_3.out.cell 1
  go_wp2_with fail
  clear lt_U r_U0 r_U1
  go_loopw [19] (fun iv wr => (iv = .int .i64 0 ∧ v3 = wr) ∨ (iv = .int .i64 1 ∧ ∃ rows' vs' T, FallR rows a zs rows' ∧ Hid (rowsL rows') ∧ Hid (Blk wr gU 40 #[.slice (some ⟨kb, 0, none⟩) n c', .slice (some ⟨bw, ow, none⟩) 1 d']) ∧ Hid (Blk wr gR 40 #[.slice none 0 0, .slice none 0 0]) ∧ Hid (On T (fun x => OwnK x v1.heap.size 59 (some ⟨kb, 0, none⟩) n c' rows' vs') wr) ∧ Hid (Below w.heap.size w wr) ∧ v3.heap.size ≤ wr.heap.size ∧ Hid (¬ T gU) ∧ Hid (¬ T gR) ∧ Hid (∀ k, T k → v1.heap.size ≤ k ∧ k < wr.heap.size))) (fun iv _ => 1 - (intOf iv).toNat)
  case atStart => exact .inl ⟨rfl, rfl⟩
  case round =>
    rcases hrel with ⟨rfl, rfl⟩ | ⟨rfl, rows2, vs2, T, hfr, hr2, HU, HRR, HO2, HF, hsz, hT1, hT2, hT3⟩
    · obtain ⟨b', o', hA, hb, hcc⟩ := HW_3.out.out.r.sl.at_ (by decide)
      injection hA with hA
      injection hA with h1 h2
      subst h1 h2
      have hc0 := hcc 0 (by decide)
      have hc1 := hcc 1 (by decide)
      simp only [Nat.add_zero, List.getElem?_cons_zero, List.getElem?_cons_succ] at hc0 hc1
      clear hcc
      obtain ⟨m, hm⟩ : ∃ m, m = zs.length := ⟨_, rfl⟩
      rw [← hm] at hc1
      have Hm := Lib.hid hm
      clear hm
      go_upto_region 7 with fail
      obtain ⟨v4, hv4⟩ : ∃ x : World, x = (v3.alloc (.cells #[.int .i64 a, .slice Ax m cx] 216)) := ⟨_, rfl⟩
      rw [← hv4]
      have f4 : Below w.heap.size w v4 := by rw [hv4]; (repeat' (first | (with_reducible exact Below.refl _ _) | (with_reducible assumption) | (with_reducible refine Below.alloc ?_ ?_ _) | (with_reducible refine Below.drew ?_) | (with_reducible refine Below.setCell ?_ ?_ _) | (with_reducible refine bstep (by assumption) ?_ ?_) | (with_reducible exact Nat.le_refl _) | omega | (simp [*]; done) | (simp [*]; omega)))
      have z4 : v3.heap.size + 1 ≤ v4.heap.size := by rw [hv4]; simp [size_set]
      have HB_4 : Hid (Blk v4 gB 40 #[.slice K n c, .slice W 1 d]) := by rw [hv4]; exact Lib.hid ((HB_3.out).alloc _)
      have HR_4 : Hid (Blk v4 gR 40 #[.slice none 0 0, .slice none 0 0]) := by rw [hv4]; exact Lib.hid ((HR_3.out).alloc _)
      have HO_4 : Hid (On (Rg v1.heap.size v2.heap.size) (fun x => OwnK x v1.heap.size 59 (some ⟨kb, 0, none⟩) n c' rows vs) v4) := by rw [hv4]; exact Lib.hid ((HO_3.out).alloc _)
      have HW_4 : Hid (On (Rg mid v2.heap.size) (fun x => OwnW x mid 216 (some ⟨bw, ow, none⟩) d' a (.slice Ax zs.length cx) zs) v4) := by rw [hv4]; exact Lib.hid ((HW_3.out).alloc _)
      have HU_4 : Hid (Blk v4 gU 40 #[(.slice (some ⟨kb, 0, none⟩) n c'), (.slice (some ⟨bw, ow, none⟩) 1 d')]) := by rw [hv4]; exact Lib.hid ((HU_3.out).alloc _)
      have HL_4 : Hid (Blk v4 v3.heap.size 216 #[.int .i64 a, .slice Ax m cx]) := by rw [hv4]; exact Lib.hid ((Blk.new_at _ _ _ _ (by simp [size_set])))
      clear hv4 HB_3 HR_3 HO_3 HW_3 HU_3
      obtain ⟨gL, hgL⟩ : ∃ q, q = v3.heap.size := ⟨_, rfl⟩
      rw [← hgL] at HL_4
      try rw [← hgL]
      have lgL : v3.heap.size ≤ gL := by omega
      have mgL : gL < v4.heap.size := by omega
      have ngL : ∀ k, v3.heap.size ≤ k → k ≠ gL → True := fun _ _ _ => trivial
      clear ngL
      clear hgL
      clear hc0 hc1
      have lt_U := HU_4.out.lt
      have r_U0 : v4.cell? ⟨gU, 0, none⟩ = some ((.slice (some ⟨kb, 0, none⟩) n c')) := HU_4.out.cell 0
      have r_U1 : v4.cell? ⟨gU, 1, none⟩ = some ((.slice (some ⟨bw, ow, none⟩) 1 d')) := HU_4.out.cell 1
      have lt_L := HL_4.out.lt
      have r_L0 : v4.cell? ⟨gL, 0, none⟩ = some (.int .i64 a) := HL_4.out.cell 0
      have r_L1 : v4.cell? ⟨gL, 1, none⟩ = some (.slice Ax m cx) := HL_4.out.cell 1
      obtain ⟨lk, ⟨yk, hyk⟩, hfk⟩ := HO_4.out.cellK ha
      have ha2 : (a : Int) < (n : Int) := by omega
      rcases Nat.eq_zero_or_pos nf with hnf | hnf
      · subst hnf
        go_wp2_with fail
        exact ⟨.inr ⟨rfl, rows, vs, Rg v1.heap.size v2.heap.size, .inl rfl, Lib.hid HR.out, Lib.hid (HU_4.out), Lib.hid (HR_4.out), Lib.hid (HO_4.out), Lib.hid (f4), by (try simp only [size_set]); omega, Lib.hid (Rg.no (by omega)), Lib.hid (Rg.no (by omega)), Lib.hid (fun k hk => by have h1 := hk.1; have h2 := hk.2; (try simp only [size_set]); omega)⟩, by simp [intOf]⟩
      · obtain ⟨bf, of_, rfl, hbf, hcf⟩ := ((HIF.out).inB f4 (fun _ hk => hk.2)).out.at_ hnf
        have hf0 := hcf 0 (by omega)
        rw [Nat.add_zero] at hf0
        have hnf2 : (0 : Int) < (nf : Int) := by omega
        clear hcf
        generalize fs.getD 0 0 = f at hf0
        by_cases h2 : f = 2
        · subst h2
          obtain ⟨yv, hyv, hyR⟩ := HO_4.out.out.s.2 a (by omega)
          have hyc : v4.cell? ⟨kb, a, none⟩ = some yv := by
            obtain ⟨b9, o9, e9, _, hc9⟩ := HO_4.out.out.r.sl.at_ (by omega)
            injection e9 with e9
            injection e9 with e1 e2
            subst e1 e2
            have := hc9 a (by omega)
            rw [Nat.zero_add] at this
            exact this.trans hyv
          obtain ⟨Bx, dx, rfl, hSB, -, -, -, -⟩ := hyR
          obtain ⟨os, hos⟩ : ∃ o, o = rows.getD a [] := ⟨_, rfl⟩
          rw [← hos] at hyc
          obtain ⟨mo, hmo⟩ : ∃ q, q = os.length := ⟨_, rfl⟩
          rw [← hmo] at hyc
          have hoL : mo ≤ m / 2 := by rw [hmo, hos, Hm.out]; exact HO.out
          have Hos := Lib.hid hos
          obtain ⟨A9, c9, e9, hSx, hx1, -, -, -⟩ := HW_4.out.out.s
          injection e9 with e1 e2 e3
          subst e1 e3
          have HX := Lib.hid hSx
          have hmz : m = zs.length := Hm.out
          have hm48 : m ≤ 48 := by rw [hmz]; exact HZ.out.1
          rw [← hmz] at HX hx1
          have hm0 : 0 < m := by rw [hmz]; exact hz0
          have hS0 : ∀ b o, b < v4.heap.size → v4.cell? ⟨b, o, none⟩ = v4.cell? ⟨b, o, none⟩ := fun _ _ _ => rfl
          have hcc := torn_short Ax Bx m cx mo dx zs os v4.drew (Sl.drew HX.out) hx1 hm0 hm48 hmo.symm hoL
          clear hos hmo hyv hSB hSx hyk e2 hmz
          go_upto_region 14 with fail
          go_region_held_law (fun w' => ∀ b o, b < v4.heap.size → w'.cell? ⟨b, o, none⟩ = v4.cell? ⟨b, o, none⟩) (repeat' (first | with_reducible assumption | with_reducible exact hS0 | with_reducible refine rd_drew ?_)) ((go_at_call 121; (with_reducible refine hcc.mono ?_); clear hcc; rintro e v5 ⟨A5, c5, rfl, R5, b5⟩; have E5 : Below v4.heap.size v4 v5 := tb_dr1 b5; have hS1 : ∀ b o, b < v4.heap.size → v5.cell? ⟨b, o, none⟩ = v4.cell? ⟨b, o, none⟩ := fun b o hb => E5.cell (p := ⟨b, o, none⟩) hb))
          have z5 := E5.size
          have R5b : Row v5 v4.heap.size 2 1 A5 (m / 2) c5 (tornL zs os) := R5
          have hO5 := HO_4.out.below E5
          have KU5 := HU_4.out.below E5
          have KR5 := HR_4.out.below E5
          have KL5 := HL_4.out.below E5
          have F5 := bthen f4 E5
          clear lt_U r_U0 r_U1 lt_L r_L0 r_L1 hyc hfk lk
          have r_U0 : v5.cell? ⟨gU, 0, none⟩ = some (.slice (some ⟨kb, 0, none⟩) n c') := KU5.cell 0
          have lt_U := KU5.lt
          have r_L0 : v5.cell? ⟨gL, 0, none⟩ = some (.int .i64 a) := KL5.cell 0
          have lt_L := KL5.lt
          obtain ⟨lk, ⟨yk, hyk⟩, hfk⟩ := hO5.cellK ha
          have hend := hO5.ownSet (T := fun k => Rg v1.heap.size v2.heap.size k ∨ Rg v4.heap.size v5.heap.size k) (hi := v2.heap.size) HIN.out (fun _ h => .inl h) ha (Rw.of_row R5b) (fun A m d he p hp => by injection he with h1; rw [← h1] at hp; have h3 := R5b.ge p hp; have h4 := R5b.lt p hp; exact ⟨by omega, by omega, .inr ⟨h3, h4⟩⟩)
          rename_i hHx
          clear hHx hS1 hS0 R5 R5b b5
          go_wp2_with fail
          exact ⟨.inr ⟨rfl, _, _, fun k => Rg v1.heap.size v2.heap.size k ∨ Rg v4.heap.size v5.heap.size k, .inr (.inr (by rw [Hos.out])), Lib.hid (HR.out.set a (by rw [Hos.out]; exact HT.out)), Lib.hid (KU5.far (p := ⟨kb, a, none⟩) (by show gU ≠ kb; omega) _), Lib.hid (KR5.far (p := ⟨kb, a, none⟩) (by show gR ≠ kb; omega) _), Lib.hid hend, Lib.hid (F5.setCell (p := ⟨kb, a, none⟩) (by show w.heap.size ≤ kb; omega) _), by (try simp only [size_set]); omega, Lib.hid (by rintro (h | h) <;> exact absurd h (Rg.no (by omega))), Lib.hid (by rintro (h | h) <;> exact absurd h (Rg.no (by omega))), Lib.hid (fun k hk => by rcases hk with ⟨h1, h2⟩ | ⟨h1, h2⟩ <;> (try simp only [size_set]) <;> omega)⟩, by simp [intOf]⟩
        · by_cases h1 : f = 1
          · subst h1
            have hend := HO_4.out.ownSet (T := Rg v1.heap.size v2.heap.size) (hi := v2.heap.size) HIN.out (fun _ h => h) ha HW_4.out.out.s (fun A m d he p hp => by injection he with h1; rw [← h1] at hp; have := hux.out p hp; exact ⟨by omega, by omega, by omega, by omega⟩)
            rw [← Hm.out] at hend
            go_wp2_with fail
            exact ⟨.inr ⟨rfl, _, _, Rg v1.heap.size v2.heap.size, .inr (.inl rfl), Lib.hid (HR.out.set a HZ.out), Lib.hid (HU_4.out.far (p := ⟨kb, a, none⟩) (by show gU ≠ kb; omega) _), Lib.hid (HR_4.out.far (p := ⟨kb, a, none⟩) (by show gR ≠ kb; omega) _), Lib.hid (hend), Lib.hid (f4.setCell (p := ⟨kb, a, none⟩) (by show w.heap.size ≤ kb; omega) _), by (try simp only [size_set]); omega, Lib.hid (Rg.no (by omega)), Lib.hid (Rg.no (by omega)), Lib.hid (fun k hk => by have h1 := hk.1; have h2 := hk.2; (try simp only [size_set]); omega)⟩, by simp [intOf]⟩
          · go_wp2_with fail
            exact ⟨.inr ⟨rfl, rows, vs, Rg v1.heap.size v2.heap.size, .inl rfl, Lib.hid HR.out, Lib.hid (HU_4.out), Lib.hid (HR_4.out), Lib.hid (HO_4.out), Lib.hid (f4), by (try simp only [size_set]); omega, Lib.hid (Rg.no (by omega)), Lib.hid (Rg.no (by omega)), Lib.hid (fun k hk => by have h1 := hk.1; have h2 := hk.2; (try simp only [size_set]); omega)⟩, by simp [intOf]⟩
    · have KU := HU.out
      have KR := HRR.out
      have r_U0 : wr.cell? ⟨gU, 0, none⟩ = some (.slice (some ⟨kb, 0, none⟩) n c') := KU.cell 0
      have r_U1 : wr.cell? ⟨gU, 1, none⟩ = some (.slice (some ⟨bw, ow, none⟩) 1 d') := KU.cell 1
      have lt_U := KU.lt
      have z_U1 := KU.frozen 1
      have lt_R := KR.lt
      have r_R0 := KR.cell 0
      have r_R1 := KR.cell 1
      have z_R0 := KR.frozen 0
      have z_R1 := KR.frozen 1
      clear KU KR
      go_wp21
      refine bodyPost_ret (v := .agg #[.slice (some ⟨kb, 0, none⟩) n c', .slice none 0 0]) (by simp [results, Tryz.results90, go_sem, *]) rfl ?_
      exact ⟨rows2, hfr, _, c', none, 0, rfl, (((((HO2.out).far (g := gU) hT1.out 1 _).far (g := gR) hT2.out 0 _).far (g := gR) hT2.out 1 _).sub (fun k hk => by have := hT3.out k hk; exact ⟨by omega, by simp only [size_set]; omega⟩)).map (fun v hv => hv.dk hn hr2.out none), ((HF.out.setCell (p := ⟨gU, 1, none⟩) (show w.heap.size ≤ gU by omega) _).setCell (p := ⟨gR, 0, none⟩) (show w.heap.size ≤ gR by omega) _).setCell (p := ⟨gR, 1, none⟩) (show w.heap.size ≤ gR by omega) _⟩
end Go.Proofs.YtbheflinchabgaaGreatDoor
