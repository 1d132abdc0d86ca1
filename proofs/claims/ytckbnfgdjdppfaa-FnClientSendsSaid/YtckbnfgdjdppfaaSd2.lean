/- Messages of a client: SendOf, the program's and the reference's. -/
import Derived.Test.YtckbnfgdjdppfaaSd1
import Derived.Test.YtckbnfgdjdppfaaC3
namespace Go.Proofs.Ytckbnfgdjdppfaa
set_option linter.unusedSimpArgs false
set_option linter.unusedVariables false
attribute [local go_sem] n_lt2 n_lt3 n_lt4 n_le2 n_le3
open Go.RowKit
attribute [local go_sem] Ext.cell Ext.frozen
/-- A message: from, to, row. -/
structure Mg where
  f : Int
  t : Int
  z : List Int
/-- At most one message, in memory of the call's own (blocks from lo on, below hi). -/
def Msgs (w : World) (lo hi : Nat) (A : Option Addr) (ms : List Mg) : Prop :=
  hi ≤ w.heap.size ∧ (ms = [] ∨ ∃ (g : Nat) (R : Option Addr) (rc : Nat) (m : Mg), ms = [m] ∧ A = some ⟨g, 0, none⟩ ∧ lo ≤ g ∧ g < hi ∧ Blk w g 38 #[.int .i64 m.f, .int .i64 m.t, .slice R m.z.length rc] ∧ Row w lo 2 1 R m.z.length rc m.z ∧ (∀ a, R = some a → a.block ≠ g ∧ a.block < hi))
theorem Msgs.le {w : World} {lo hi : Nat} {A : Option Addr} {ms : List Mg} (h : Msgs w lo hi A ms) : hi ≤ w.heap.size := h.1
theorem Msgs.below {w w' : World} {lo hi : Nat} {A : Option Addr} {ms : List Mg} (h : Msgs w lo hi A ms) (b : Below w.heap.size w w') : Msgs w' lo hi A ms := by
  refine ⟨Nat.le_trans h.1 b.size, ?_⟩
  rcases h.2 with h | ⟨g, R, rc, m, h1, h2, h3, h3', h4, h5, h6⟩
  · exact .inl h
  · exact .inr ⟨g, R, rc, m, h1, h2, h3, h3', h4.below b, h5.below b, h6⟩
/-- What SendOf hands back. -/
def RetMsgs (w : World) (ms : List Mg) (e : Ending) (w' : World) : Prop := ∃ A c, e = .returned (.slice A ms.length c) ∧ ms.length ≤ 1 ∧ Msgs w' w.heap.size w'.heap.size A ms ∧ Below w.heap.size w w'
theorem RetMsgs.nil {w w' : World} {ms : List Mg} {A : Option Addr} {c : Nat} (h : ms = []) (b : Below w.heap.size w w') : RetMsgs w ms (.returned (.slice A 0 c)) w' := by
  subst h
  exact ⟨A, c, rfl, by simp, ⟨Nat.le_refl _, .inl rfl⟩, b⟩
theorem RetMsgs.one {w w' : World} {ms : List Mg} {g : Nat} {R : Option Addr} {n rc : Nat} {f t : Int} {z : List Int} (h : ms = [⟨f, t, z⟩]) (hz : z.length = n) (hg : w.heap.size ≤ g) (K : Blk w' g 38 #[.int .i64 f, .int .i64 t, .slice R n rc]) (Rw : Row w' w.heap.size 2 1 R n rc z) (hne : ∀ a, R = some a → a.block ≠ g) (b : Below w.heap.size w w') : RetMsgs w ms (.returned (.slice (some ⟨g, 0, none⟩) 1 1)) w' := by
  subst h hz
  exact ⟨_, 1, rfl, by simp, ⟨Nat.le_refl _, .inr ⟨g, R, rc, ⟨f, t, z⟩, rfl, rfl, hg, K.lt, K, Rw, fun a ha => ⟨hne a ha, Rw.lt a ha⟩⟩⟩, b⟩
/-- The message for the request with number q. -/
def sendM (i0 t0 : Int) (p : Wt) (q : Int) : Mg := if p.k = 4 then ⟨i0, 1, [6, i0, q, p.y, t0]⟩ else ⟨i0, 0, [1, i0, q, p.o, p.a, p.b, p.c, p.d]⟩
def sendL (i0 t0 : Int) (wl : List Wt) (gl : List Gt) : List Mg := if clientB i0 wl gl t0 = true ∧ gl.length ≠ wl.length then [sendM i0 t0 (wl.getD gl.length default) ((gl.length : Int) + 1)] else []
theorem clientB_out {i0 t0 : Int} {wl : List Wt} {gl : List Gt} (h : clientB i0 wl gl t0 = true) : (i0 = 4 ∨ i0 = 5) ∧ wl.length ≤ 12 ∧ (∀ j, j < wl.length → wantOkB (wl.getD j default) = true) ∧ gl.length ≤ wl.length ∧ (∀ j, j < gl.length → gotAt wl gl j = true) ∧ t0 = lastAt gl gl.length := by
  unfold clientB gotsB wantsB at h
  simp only [Bool.and_eq_true, Bool.or_eq_true, decide_eq_true_eq, List.all_eq_true, List.mem_range] at h
  exact ⟨h.1, h.2.1, h.2.2.1, h.2.2.2.1, h.2.2.2.2.1, h.2.2.2.2.2⟩
theorem last_range {wl : List Wt} {gl : List Gt} (h : ∀ j, j < gl.length → gotAt wl gl j = true) : ∀ i, i ≤ gl.length → 0 ≤ lastAt gl i ∧ lastAt gl i ≤ 2000 := by
  intro i
  induction i with
  | zero => intro _; simp [lastAt]
  | succ i ih =>
    intro hi
    have h1 := h i (by omega)
    have h2 := ih (by omega)
    unfold gotAt gotB at h1
    simp only [Bool.and_eq_true, inB_iff] at h1
    have h3 : lastAt gl (i + 1) = (gl.getD i default).x := by unfold lastAt; rw [if_neg (by omega)]; rfl
    rw [h3]
    omega
theorem client_t0 {i0 t0 : Int} {wl : List Wt} {gl : List Gt} (h : clientB i0 wl gl t0 = true) : 0 ≤ t0 ∧ t0 ≤ 2000 := by
  obtain ⟨_, _, _, _, h5, h6⟩ := clientB_out h
  rw [h6]
  exact last_range h5 _ (Nat.le_refl _)
theorem send_read {i0 t0 : Int} {wl : List Wt} {gl : List Gt} (h : clientB i0 wl gl t0 = true) {m : Nat} (hm : gl.length = m) (hlt : m < wl.length) {k o a b c d y : Int} (hp : wl.getD m default = ⟨k, o, a, b, c, d, y⟩) (h4 : k = 4) : readB i0 ((m : Int) + 1) y t0 = true := by
  obtain ⟨h1, h2, h3, _, _, _⟩ := clientB_out h
  have ht := client_t0 h
  have hw := h3 m hlt
  rw [hp] at hw
  unfold wantOkB wantB at hw
  subst h4
  simp [inB_iff] at hw
  unfold readB
  simp only [Bool.and_eq_true, inB_iff]
  omega
theorem send_ask {i0 t0 : Int} {wl : List Wt} {gl : List Gt} (h : clientB i0 wl gl t0 = true) {m : Nat} (hm : gl.length = m) (hlt : m < wl.length) {k o a b c d y : Int} (hp : wl.getD m default = ⟨k, o, a, b, c, d, y⟩) (h4 : ¬ k = 4) : askB i0 ((m : Int) + 1) o a b c d = true := by
  obtain ⟨h1, h2, h3, _, _, _⟩ := clientB_out h
  have hw := h3 m hlt
  rw [hp] at hw
  unfold wantOkB wantB at hw
  simp only at hw
  unfold askB
  simp only [Bool.and_eq_true, inB_iff]
  refine ⟨by omega, by omega, ?_⟩
  by_cases hk : k = 1 ∨ k = 2 ∨ k = 3
  · rw [if_pos hk] at hw
    simp only [Bool.and_eq_true] at hw
    exact hw.1
  · rw [if_neg hk, if_neg h4] at hw
    exact absurd hw (by simp)
abbrev Kp47 (w0 : World) (g0 g1 : Nat) (x0y0 x0y1 x0y2 x0y3 x1y0 x1y1 x1y2 x1y3 x1y4 x1y5 x1y6 : Value) (w' : World) : Prop := Below w0.heap.size w0 w' ∧ w'.cell? ⟨g0, 0, none⟩ = some (x0y0) ∧ w'.cell? ⟨g0, 1, none⟩ = some (x0y1) ∧ w'.cell? ⟨g0, 2, none⟩ = some (x0y2) ∧ w'.cell? ⟨g0, 3, none⟩ = some (x0y3) ∧ w'.cell? ⟨g1, 0, none⟩ = some (x1y0) ∧ w'.cell? ⟨g1, 1, none⟩ = some (x1y1) ∧ w'.cell? ⟨g1, 2, none⟩ = some (x1y2) ∧ w'.cell? ⟨g1, 3, none⟩ = some (x1y3) ∧ w'.cell? ⟨g1, 4, none⟩ = some (x1y4) ∧ w'.cell? ⟨g1, 5, none⟩ = some (x1y5) ∧ w'.cell? ⟨g1, 6, none⟩ = some (x1y6)
theorem Kp47.of {w0 : World} {g0 g1 : Nat} {x0y0 x0y1 x0y2 x0y3 x1y0 x1y1 x1y2 x1y3 x1y4 x1y5 x1y6 : Value} {e0 e1 : TypeId} (K0 : Blk w0 g0 e0 #[x0y0, x0y1, x0y2, x0y3]) (K1 : Blk w0 g1 e1 #[x1y0, x1y1, x1y2, x1y3, x1y4, x1y5, x1y6]) {w' : World} (h : Below w0.heap.size w0 w') : Kp47 w0 g0 g1 x0y0 x0y1 x0y2 x0y3 x1y0 x1y1 x1y2 x1y3 x1y4 x1y5 x1y6 w' := ⟨h, (K0.below h).cell 0, (K0.below h).cell 1, (K0.below h).cell 2, (K0.below h).cell 3, (K1.below h).cell 0, (K1.below h).cell 1, (K1.below h).cell 2, (K1.below h).cell 3, (K1.below h).cell 4, (K1.below h).cell 5, (K1.below h).cell 6⟩
theorem Kp47.b {w0 : World} {g0 g1 : Nat} {x0y0 x0y1 x0y2 x0y3 x1y0 x1y1 x1y2 x1y3 x1y4 x1y5 x1y6 : Value} {w' : World} (h : Kp47 w0 g0 g1 x0y0 x0y1 x0y2 x0y3 x1y0 x1y1 x1y2 x1y3 x1y4 x1y5 x1y6 w') : Below w0.heap.size w0 w' := h.1
theorem Kp47.le {w0 : World} {g0 g1 : Nat} {x0y0 x0y1 x0y2 x0y3 x1y0 x1y1 x1y2 x1y3 x1y4 x1y5 x1y6 : Value} {w' : World} (h : Kp47 w0 g0 g1 x0y0 x0y1 x0y2 x0y3 x1y0 x1y1 x1y2 x1y3 x1y4 x1y5 x1y6 w') : w0.heap.size ≤ w'.heap.size := h.1.size
theorem Kp47.drew {w0 : World} {g0 g1 : Nat} {x0y0 x0y1 x0y2 x0y3 x1y0 x1y1 x1y2 x1y3 x1y4 x1y5 x1y6 : Value} {e0 e1 : TypeId} (K0 : Blk w0 g0 e0 #[x0y0, x0y1, x0y2, x0y3]) (K1 : Blk w0 g1 e1 #[x1y0, x1y1, x1y2, x1y3, x1y4, x1y5, x1y6]) {w' : World} (h : Kp47 w0 g0 g1 x0y0 x0y1 x0y2 x0y3 x1y0 x1y1 x1y2 x1y3 x1y4 x1y5 x1y6 w') : Kp47 w0 g0 g1 x0y0 x0y1 x0y2 x0y3 x1y0 x1y1 x1y2 x1y3 x1y4 x1y5 x1y6 w'.drew := Kp47.of K0 K1 h.1.drew
theorem Kp47.alloc {w0 : World} {g0 g1 : Nat} {x0y0 x0y1 x0y2 x0y3 x1y0 x1y1 x1y2 x1y3 x1y4 x1y5 x1y6 : Value} {e0 e1 : TypeId} (K0 : Blk w0 g0 e0 #[x0y0, x0y1, x0y2, x0y3]) (K1 : Blk w0 g1 e1 #[x1y0, x1y1, x1y2, x1y3, x1y4, x1y5, x1y6]) {w' : World} (h : Kp47 w0 g0 g1 x0y0 x0y1 x0y2 x0y3 x1y0 x1y1 x1y2 x1y3 x1y4 x1y5 x1y6 w') (o : Obj) : Kp47 w0 g0 g1 x0y0 x0y1 x0y2 x0y3 x1y0 x1y1 x1y2 x1y3 x1y4 x1y5 x1y6 (w'.alloc o) := Kp47.of K0 K1 (h.1.alloc h.1.size o)
theorem Kp47.after {w0 : World} {g0 g1 : Nat} {x0y0 x0y1 x0y2 x0y3 x1y0 x1y1 x1y2 x1y3 x1y4 x1y5 x1y6 : Value} {e0 e1 : TypeId} (K0 : Blk w0 g0 e0 #[x0y0, x0y1, x0y2, x0y3]) (K1 : Blk w0 g1 e1 #[x1y0, x1y1, x1y2, x1y3, x1y4, x1y5, x1y6]) {w' w2 : World} (h : Kp47 w0 g0 g1 x0y0 x0y1 x0y2 x0y3 x1y0 x1y1 x1y2 x1y3 x1y4 x1y5 x1y6 w') (b : Below w'.heap.size w' w2) : Kp47 w0 g0 g1 x0y0 x0y1 x0y2 x0y3 x1y0 x1y1 x1y2 x1y3 x1y4 x1y5 x1y6 w2 := Kp47.of K0 K1 (bthen h.1 b)
theorem Kp47.ad {w0 : World} {g0 g1 : Nat} {x0y0 x0y1 x0y2 x0y3 x1y0 x1y1 x1y2 x1y3 x1y4 x1y5 x1y6 : Value} {e0 e1 : TypeId} (K0 : Blk w0 g0 e0 #[x0y0, x0y1, x0y2, x0y3]) (K1 : Blk w0 g1 e1 #[x1y0, x1y1, x1y2, x1y3, x1y4, x1y5, x1y6]) {w' : World} (h : Kp47 w0 g0 g1 x0y0 x0y1 x0y2 x0y3 x1y0 x1y1 x1y2 x1y3 x1y4 x1y5 x1y6 w'.drew) (o : Obj) : Kp47 w0 g0 g1 x0y0 x0y1 x0y2 x0y3 x1y0 x1y1 x1y2 x1y3 x1y4 x1y5 x1y6 (w'.alloc o).drew := Kp47.of K0 K1 (Below.drew (Below.alloc (show Below w0.heap.size w0 w' from ⟨h.1.os, h.1.tape, h.1.output, h.1.size, h.1.block⟩) h.1.size o))
set_option maxHeartbeats 1000000 in
theorem kindOf_ask (c s k a b x y : Int) (w : World) :
    Calls Try.prog 44 #[.iface 54 (.agg #[.int .i64 c, .int .i64 s, .int .i64 k, .int .i64 a, .int .i64 b, .int .i64 x, .int .i64 y])] w fun e w' => e = .returned (.int .i64 1) ∧ w = w' := by
  have a0 : ∀ w : World, (Instr.typeAssert (.iface 54 (.agg #[.int .i64 c, .int .i64 s, .int .i64 k, .int .i64 a, .int .i64 b, .int .i64 x, .int .i64 y])) 91 54 true).run Try.prog w = .ok (.tuple #[.agg #[.int .i64 c, .int .i64 s, .int .i64 k, .int .i64 a, .int .i64 b, .int .i64 x, .int .i64 y], .bool true]) w := fun _ => by kernel_rfl
  go_enter Try.func44, Try.ntmps44
  go_wp2
  go_ret
  exact ⟨rfl, rfl⟩
set_option maxHeartbeats 1000000 in
theorem kindOf_read (c s k l : Int) (w : World) :
    Calls Try.prog 44 #[.iface 47 (.agg #[.int .i64 c, .int .i64 s, .int .i64 k, .int .i64 l])] w fun e w' => e = .returned (.int .i64 6) ∧ w = w' := by
  have a0 : ∀ w : World, (Instr.typeAssert (.iface 47 (.agg #[.int .i64 c, .int .i64 s, .int .i64 k, .int .i64 l])) 91 54 true).run Try.prog w = .ok (.tuple #[.agg #[.int .i64 0, .int .i64 0, .int .i64 0, .int .i64 0, .int .i64 0, .int .i64 0, .int .i64 0], .bool false]) w := fun _ => by kernel_rfl
  have a1 : ∀ w : World, (Instr.typeAssert (.iface 47 (.agg #[.int .i64 c, .int .i64 s, .int .i64 k, .int .i64 l])) 91 59 true).run Try.prog w = .ok (.tuple #[.agg #[.int .i64 0, .int .i64 0, .int .i64 0, .int .i64 0], .bool false]) w := fun _ => by kernel_rfl
  have a2 : ∀ w : World, (Instr.typeAssert (.iface 47 (.agg #[.int .i64 c, .int .i64 s, .int .i64 k, .int .i64 l])) 91 94 true).run Try.prog w = .ok (.tuple #[.int .i64 0, .bool false]) w := fun _ => by kernel_rfl
  have a3 : ∀ w : World, (Instr.typeAssert (.iface 47 (.agg #[.int .i64 c, .int .i64 s, .int .i64 k, .int .i64 l])) 91 97 true).run Try.prog w = .ok (.tuple #[.agg #[.int .i64 0, .int .i64 0, .slice none 0 0], .bool false]) w := fun _ => by kernel_rfl
  have a4 : ∀ w : World, (Instr.typeAssert (.iface 47 (.agg #[.int .i64 c, .int .i64 s, .int .i64 k, .int .i64 l])) 91 98 true).run Try.prog w = .ok (.tuple #[.int .i64 0, .bool false]) w := fun _ => by kernel_rfl
  have a5 : ∀ w : World, (Instr.typeAssert (.iface 47 (.agg #[.int .i64 c, .int .i64 s, .int .i64 k, .int .i64 l])) 91 47 true).run Try.prog w = .ok (.tuple #[.agg #[.int .i64 c, .int .i64 s, .int .i64 k, .int .i64 l], .bool true]) w := fun _ => by kernel_rfl
  go_enter Try.func44, Try.ntmps44
  go_wp2
  go_ret
  exact ⟨rfl, rfl⟩
theorem bstep2 {lo : Nat} {w a b : World} (h1 : Below w.heap.size w a) (h2 : Below lo a b) (h : w.heap.size ≤ lo) : Below w.heap.size w b := h1.trans (h2.mono h)
set_option maxRecDepth 100000 in
set_option maxHeartbeats 2000000 in
theorem encAsk_yes (c s k a b x y : Int) (w : World) (h : askB c s k a b x y = true) :
    Calls Try.prog 34 #[.iface 54 (.agg #[.int .i64 c, .int .i64 s, .int .i64 k, .int .i64 a, .int .i64 b, .int .i64 x, .int .i64 y])] w (RetRow w 2 1 8 [1, c, s, k, a, b, x, y]) := by
  have n1 : ∀ w : World, (nilAhead 226 54 (.agg #[.int .i64 c, .int .i64 s, .int .i64 k, .int .i64 a, .int .i64 b, .int .i64 x, .int .i64 y]) "loop.example/g00851/impl.valid").run Try.prog w = .ok (some false) w := fun _ => by kernel_rfl
  have n2 : ∀ w : World, (method 226 54 (.agg #[.int .i64 c, .int .i64 s, .int .i64 k, .int .i64 a, .int .i64 b, .int .i64 x, .int .i64 y]) "loop.example/g00851/impl.valid").run Try.prog w = .ok (73, .agg #[.int .i64 c, .int .i64 s, .int .i64 k, .int .i64 a, .int .i64 b, .int .i64 x, .int .i64 y]) w := fun _ => by kernel_rfl
  have n3 : ∀ w : World, (nilAhead 226 54 (.agg #[.int .i64 c, .int .i64 s, .int .i64 k, .int .i64 a, .int .i64 b, .int .i64 x, .int .i64 y]) "loop.example/g00851/impl.fields").run Try.prog w = .ok (some false) w := fun _ => by kernel_rfl
  have n4 : ∀ w : World, (method 226 54 (.agg #[.int .i64 c, .int .i64 s, .int .i64 k, .int .i64 a, .int .i64 b, .int .i64 x, .int .i64 y]) "loop.example/g00851/impl.fields").run Try.prog w = .ok (72, .agg #[.int .i64 c, .int .i64 s, .int .i64 k, .int .i64 a, .int .i64 b, .int .i64 x, .int .i64 y]) w := fun _ => by kernel_rfl
  have cv := askValid_any c s k a b x y w
  rw [h] at cv
  clear h
  go_enter Try.func34, Try.ntmps34
  go_wp2_with fail
  refine cv.mono ?_
  rintro e v1 ⟨rfl, b1⟩
  clear cv
  go_wp2_with fail
  refine (kindOf_ask c s k a b x y v1).mono ?_
  rintro e w' ⟨rfl, rfl⟩
  go_wp2_with fail
  refine calls_named ?_
  rintro v2 hv2
  have K2 : Blk v2 v1.heap.size 2 #[.int .i64 1] := by rw [hv2]; exact Blk.new _ _ _
  have b2 : Below v1.heap.size v1 v2 := by rw [hv2]; (repeat' (first | (with_reducible exact Below.refl _ _) | (with_reducible assumption) | (with_reducible refine Below.alloc ?_ ?_ _) | (with_reducible refine Below.drew ?_) | (with_reducible refine Below.setCell ?_ ?_ _) | (with_reducible refine bstep (by assumption) ?_ ?_) | (with_reducible exact Nat.le_refl _) | omega | (simp [*]; done) | (simp [*]; omega)))
  clear hv2
  refine (askFields_any c s k a b x y v2).mono ?_
  rintro e v3 ⟨A1, c1, rfl, R1, b3⟩
  obtain ⟨g1, cs1, rfl, -, -, -, -, -, -⟩ := R1.blk (by decide)
  have K3 := row_lit [1] (K2.below b3) rfl (Nat.le_refl _) (by simp [maxLen]) rfl
  have S3 := slices_of R1.sl rfl
  have z3 := Nat.le_trans b2.size b3.size
  have HB := Lib.hid (bthen b1 (bthen b2 b3))
  clear K2 b2 b3 n1 n2 n3 n4
  go_wp2_with (at_builtin; refine wpList_append_row rfl _ _ 36 rfl 2 (.int .i64 0) 1 8 Try.underlying36 info_Int64 rfl (by decide) v1.heap.size (some ⟨v1.heap.size, 0, none⟩) 1 1 [1] rfl K3 ⟨g1, 0, none⟩ 7 c1 [c, s, k, a, b, x, y] rfl rfl S3 (by simp [maxLen]) (by decide) z3 ?_; intro A5 c5 w5 R5 B5)
  go_ret
  exact RetRow.mk (R5.mono b1.size) (bstep2 HB.out B5 b1.size)
set_option maxRecDepth 100000 in
set_option maxHeartbeats 2000000 in
theorem encRead_yes (c s k l : Int) (w : World) (h : readB c s k l = true) :
    Calls Try.prog 34 #[.iface 47 (.agg #[.int .i64 c, .int .i64 s, .int .i64 k, .int .i64 l])] w (RetRow w 2 1 5 [6, c, s, k, l]) := by
  have n1 : ∀ w : World, (nilAhead 226 47 (.agg #[.int .i64 c, .int .i64 s, .int .i64 k, .int .i64 l]) "loop.example/g00851/impl.valid").run Try.prog w = .ok (some false) w := fun _ => by kernel_rfl
  have n2 : ∀ w : World, (method 226 47 (.agg #[.int .i64 c, .int .i64 s, .int .i64 k, .int .i64 l]) "loop.example/g00851/impl.valid").run Try.prog w = .ok (68, .agg #[.int .i64 c, .int .i64 s, .int .i64 k, .int .i64 l]) w := fun _ => by kernel_rfl
  have n3 : ∀ w : World, (nilAhead 226 47 (.agg #[.int .i64 c, .int .i64 s, .int .i64 k, .int .i64 l]) "loop.example/g00851/impl.fields").run Try.prog w = .ok (some false) w := fun _ => by kernel_rfl
  have n4 : ∀ w : World, (method 226 47 (.agg #[.int .i64 c, .int .i64 s, .int .i64 k, .int .i64 l]) "loop.example/g00851/impl.fields").run Try.prog w = .ok (67, .agg #[.int .i64 c, .int .i64 s, .int .i64 k, .int .i64 l]) w := fun _ => by kernel_rfl
  have cv := readValid_any c s k l w
  rw [h] at cv
  clear h
  go_enter Try.func34, Try.ntmps34
  go_wp2_with fail
  refine cv.mono ?_
  rintro e v1 ⟨rfl, b1⟩
  clear cv
  go_wp2_with fail
  refine (kindOf_read c s k l v1).mono ?_
  rintro e w' ⟨rfl, rfl⟩
  go_wp2_with fail
  refine calls_named ?_
  rintro v2 hv2
  have K2 : Blk v2 v1.heap.size 2 #[.int .i64 6] := by rw [hv2]; exact Blk.new _ _ _
  have b2 : Below v1.heap.size v1 v2 := by rw [hv2]; (repeat' (first | (with_reducible exact Below.refl _ _) | (with_reducible assumption) | (with_reducible refine Below.alloc ?_ ?_ _) | (with_reducible refine Below.drew ?_) | (with_reducible refine Below.setCell ?_ ?_ _) | (with_reducible refine bstep (by assumption) ?_ ?_) | (with_reducible exact Nat.le_refl _) | omega | (simp [*]; done) | (simp [*]; omega)))
  clear hv2
  refine (readFields_any c s k l v2).mono ?_
  rintro e v3 ⟨A1, c1, rfl, R1, b3⟩
  obtain ⟨g1, cs1, rfl, -, -, -, -, -, -⟩ := R1.blk (by decide)
  have K3 := row_lit [6] (K2.below b3) rfl (Nat.le_refl _) (by simp [maxLen]) rfl
  have S3 := slices_of R1.sl rfl
  have z3 := Nat.le_trans b2.size b3.size
  have HB := Lib.hid (bthen b1 (bthen b2 b3))
  clear K2 b2 b3 n1 n2 n3 n4
  go_wp2_with (at_builtin; refine wpList_append_row rfl _ _ 36 rfl 2 (.int .i64 0) 1 8 Try.underlying36 info_Int64 rfl (by decide) v1.heap.size (some ⟨v1.heap.size, 0, none⟩) 1 1 [6] rfl K3 ⟨g1, 0, none⟩ 4 c1 [c, s, k, l] rfl rfl S3 (by simp [maxLen]) (by decide) z3 ?_; intro A5 c5 w5 R5 B5)
  go_ret
  exact RetRow.mk (R5.mono b1.size) (bstep2 HB.out B5 b1.size)
set_option maxHeartbeats 1000000 in
theorem askRow_yes (c s k a b x y : Int) (w : World) (h : askB c s k a b x y = true) :
    Calls Try.prog 20 #[.agg #[.int .i64 c, .int .i64 s, .int .i64 k, .int .i64 a, .int .i64 b, .int .i64 x, .int .i64 y]] w (RetRow w 2 1 8 [1, c, s, k, a, b, x, y]) := by
  have H := Lib.hid h
  clear h
  go_enter Try.func20, Try.ntmps20
  go_wp2_with fail
  refine calls_named ?_
  rintro v1 hv1
  have b1 : Below w.heap.size w v1 := by rw [hv1]; (repeat' (first | (with_reducible exact Below.refl _ _) | (with_reducible assumption) | (with_reducible refine Below.alloc ?_ ?_ _) | (with_reducible refine Below.drew ?_) | (with_reducible refine Below.setCell ?_ ?_ _) | (with_reducible refine bstep (by assumption) ?_ ?_) | (with_reducible exact Nat.le_refl _) | omega | (simp [*]; done) | (simp [*]; omega)))
  clear hv1
  refine (encAsk_yes c s k a b x y v1 H.out).mono ?_
  rintro e v2 ⟨A1, c1, rfl, R1, b2⟩
  go_wp2_with fail
  go_ret
  exact RetRow.mk (R1.mono b1.size) (bthen b1 b2)
set_option maxHeartbeats 1000000 in
theorem readRow_yes (c s k l : Int) (w : World) (h : readB c s k l = true) :
    Calls Try.prog 19 #[.agg #[.int .i64 c, .int .i64 s, .int .i64 k, .int .i64 l]] w (RetRow w 2 1 5 [6, c, s, k, l]) := by
  have H := Lib.hid h
  clear h
  go_enter Try.func19, Try.ntmps19
  go_wp2_with fail
  refine calls_named ?_
  rintro v1 hv1
  have b1 : Below w.heap.size w v1 := by rw [hv1]; (repeat' (first | (with_reducible exact Below.refl _ _) | (with_reducible assumption) | (with_reducible refine Below.alloc ?_ ?_ _) | (with_reducible refine Below.drew ?_) | (with_reducible refine Below.setCell ?_ ?_ _) | (with_reducible refine bstep (by assumption) ?_ ?_) | (with_reducible exact Nat.le_refl _) | omega | (simp [*]; done) | (simp [*]; omega)))
  clear hv1
  refine (encRead_yes c s k l v1 H.out).mono ?_
  rintro e v2 ⟨A1, c1, rfl, R1, b2⟩
  go_wp2_with fail
  go_ret
  exact RetRow.mk (R1.mono b1.size) (bthen b1 b2)
set_option maxRecDepth 100000 in
set_option maxHeartbeats 4000000 in
theorem sendOf_any (A : Option Addr) (n c : Nat) (B : Option Addr) (m d : Nat) (i0 t0 : Int) (wl : List Wt) (gl : List Gt) (w : World) (hP : Sl w 7 A n (WT wl)) (hQ : Sl w 4 B m (GT gl)) (hl : wl.length = n) (hr : gl.length = m) (hn : n ≤ maxLen) (hm : m ≤ maxLen) :
    Calls Try.prog 9 #[.agg #[.int .i64 i0, .slice A n c, .slice B m d, .int .i64 t0]] w (RetMsgs w (sendL i0 t0 wl gl)) := by
  have hL := Lib.hid hl
  have hR := Lib.hid hr
  have HP := Lib.hid hP
  have HQ := Lib.hid hQ
  clear hP hQ hl hr
  go_enter Try.func9, Try.ntmps9
  go_wp2_with fail
  refine calls_named ?_
  rintro v0 hv0
  have f0 : Below w.heap.size w v0 := by rw [hv0]; (repeat' (first | (with_reducible exact Below.refl _ _) | (with_reducible assumption) | (with_reducible refine Below.alloc ?_ ?_ _) | (with_reducible refine Below.drew ?_) | (with_reducible refine Below.setCell ?_ ?_ _) | (with_reducible refine bstep (by assumption) ?_ ?_) | (with_reducible exact Nat.le_refl _) | omega | (simp [*]; done) | (simp [*]; omega)))
  have HK := Lib.hid (show Blk v0 w.heap.size 32 #[.int .i64 i0, .slice A n c, .slice B m d, .int .i64 t0] by rw [hv0]; exact Blk.new _ _ _)
  clear hv0
  have c1 := clientOk_any A n c B m d i0 t0 wl gl v0 (HP.out.below f0) (HQ.out.below f0) hL.out hR.out hn hm
  unfold maxLen at hn hm
  cases hq : clientB i0 wl gl t0 with
  | false =>
    have HV := Lib.hid (show sendL i0 t0 wl gl = [] by unfold sendL; rw [if_neg (by rw [hq]; simp)])
    rw [hq] at c1
    clear hq
    refine c1.mono ?_
    rintro e v1 ⟨rfl, b1⟩
    have f1 := bthen f0 b1
    have HC1 := Lib.hid (HK.out.below b1)
    clear c1 b1 HK f0
    go_wp21
    go_ret
    exact RetMsgs.nil HV.out f1
  | true =>
    have hle := clientB_le hq
    rw [hL.out, hR.out] at hle
    obtain ⟨hn12, hmn0⟩ := hle
    rw [hq] at c1
    refine c1.mono ?_
    rintro e v1 ⟨rfl, b1⟩
    have f1 := bthen f0 b1
    have HC1 := Lib.hid (HK.out.below b1)
    clear c1 b1 HK f0
    have lt_r_c := HC1.out.lt
    have r_c0 : v1.cell? ⟨w.heap.size, 0, none⟩ = some (.int .i64 i0) := HC1.out.cell 0
    have r_c1 : v1.cell? ⟨w.heap.size, 1, none⟩ = some (.slice A n c) := HC1.out.cell 1
    have r_c2 : v1.cell? ⟨w.heap.size, 2, none⟩ = some (.slice B m d) := HC1.out.cell 2
    have r_c3 : v1.cell? ⟨w.heap.size, 3, none⟩ = some (.int .i64 t0) := HC1.out.cell 3
    by_cases hmn : m = n
    · have HV := Lib.hid (show sendL i0 t0 wl gl = [] by unfold sendL; rw [if_neg (by rw [hR.out, hL.out]; exact fun h => h.2 hmn)])
      have h2 := Lib.hid (show pendS wl gl = 0 by unfold pendS; rw [if_pos (by rw [hL.out, hR.out]; exact hmn)])
      have c2 := pending_any A n c B m d i0 t0 wl gl v1 (HP.out.below f1) (HQ.out.below f1) hL.out hR.out (by unfold maxLen; omega) (by unfold maxLen; omega) hmn0
      rw [h2.out] at c2
      clear hq hmn
      generalize pendW wl gl = pw at c2
      obtain ⟨k, o, a, b, c0, d0, y⟩ := pw
      simp only at c2
      go_wp2_with fail
      refine c2.mono ?_
      rintro e v2 ⟨rfl, b2⟩
      have f2 := bthen f1 b2
      clear c2 lt_r_c r_c0 r_c1 r_c2 r_c3
      go_wp2
      go_ret
      exact RetMsgs.nil HV.out (f2.alloc f2.size _)
    · have hlt : m < n := by omega
      have hnz : ¬ (m : Int) + 1 = 0 := by omega
      have hnzb : ((m : Int) + 1 == 0) = false := by simpa using hnz
      have h2 := Lib.hid (show pendS wl gl = (m : Int) + 1 by unfold pendS; rw [if_neg (by rw [hL.out, hR.out]; exact hmn), hR.out])
      have h1 := Lib.hid (show pendW wl gl = wl.getD m default by unfold pendW; rw [if_neg (by rw [hL.out, hR.out]; exact hmn), hR.out])
      have c2 := pending_any A n c B m d i0 t0 wl gl v1 (HP.out.below f1) (HQ.out.below f1) hL.out hR.out (by unfold maxLen; omega) (by unfold maxLen; omega) hmn0
      rw [h2.out, h1.out] at c2
      generalize hp : wl.getD m default = p at c2
      obtain ⟨k, o, a, b, c0, d0, y⟩ := p
      simp only at c2
      by_cases h4 : k = 4
      · have HR2 := Lib.hid (send_read hq hR.out (by have := hL.out; omega) hp h4)
        have HV := Lib.hid (show sendL i0 t0 wl gl = [⟨i0, 1, [6, i0, ((m : Int) + 1), y, t0]⟩] by unfold sendL sendM; rw [if_pos ⟨hq, by rw [hR.out, hL.out]; exact hmn⟩, hR.out, hp, if_pos h4])
        clear hp hq
        have h4b : (k == 4) = true := by simpa using h4
        clear h4
        go_wp2_with fail
        refine c2.mono ?_
        rintro e v2 ⟨rfl, b2⟩
        have f2 := bthen f1 b2
        have HC2' := Lib.hid (HC1.out.below b2)
        clear c2 b2 lt_r_c r_c0 r_c1 r_c2 r_c3
        go_wp2
        obtain ⟨v3, hv3⟩ : ∃ v : World, v = v2.alloc (.cells #[.int .i64 k, .int .i64 o, .int .i64 a, .int .i64 b, .int .i64 c0, .int .i64 d0, .int .i64 y] 45) := ⟨_, rfl⟩
        try rw [← hv3]
        obtain ⟨g2, hg2⟩ : ∃ g, g = v2.heap.size := ⟨_, rfl⟩
        try rw [← hg2]
        have HC3 : Hid (Blk v3 w.heap.size 32 #[.int .i64 i0, .slice A n c, .slice B m d, .int .i64 t0]) := by rw [hv3]; exact HC2'.out.alloc _
        have HW3 : Hid (Blk v3 g2 45 #[.int .i64 k, .int .i64 o, .int .i64 a, .int .i64 b, .int .i64 c0, .int .i64 d0, .int .i64 y]) := by rw [hv3, hg2]; exact Blk.new _ _ _
        have HF : Hid (Below w.heap.size w v3) := by rw [hv3]; exact f2.alloc f2.size _
        have hgw : w.heap.size < g2 := by rw [hg2]; exact HC2'.out.lt
        clear hv3 hg2 f1 f2 HC2'
        have hw2 := hgw
        have q_c0 : v3.cell? ⟨w.heap.size, 0, none⟩ = some (.int .i64 i0) := HC3.out.cell 0
        have q_c1 : v3.cell? ⟨w.heap.size, 1, none⟩ = some (.slice A n c) := HC3.out.cell 1
        have q_c2 : v3.cell? ⟨w.heap.size, 2, none⟩ = some (.slice B m d) := HC3.out.cell 2
        have q_c3 : v3.cell? ⟨w.heap.size, 3, none⟩ = some (.int .i64 t0) := HC3.out.cell 3
        have lt_w := HW3.out.lt
        have q_w0 : v3.cell? ⟨g2, 0, none⟩ = some (.int .i64 k) := HW3.out.cell 0
        have q_w1 : v3.cell? ⟨g2, 1, none⟩ = some (.int .i64 o) := HW3.out.cell 1
        have q_w2 : v3.cell? ⟨g2, 2, none⟩ = some (.int .i64 a) := HW3.out.cell 2
        have q_w3 : v3.cell? ⟨g2, 3, none⟩ = some (.int .i64 b) := HW3.out.cell 3
        have q_w4 : v3.cell? ⟨g2, 4, none⟩ = some (.int .i64 c0) := HW3.out.cell 4
        have q_w5 : v3.cell? ⟨g2, 5, none⟩ = some (.int .i64 d0) := HW3.out.cell 5
        have q_w6 : v3.cell? ⟨g2, 6, none⟩ = some (.int .i64 y) := HW3.out.cell 6
        go_region_held_law (fun w' => Below v3.heap.size v3 w' ∧ w'.cell? ⟨w.heap.size, 0, none⟩ = some (.int .i64 i0) ∧ w'.cell? ⟨w.heap.size, 1, none⟩ = some (.slice A n c) ∧ w'.cell? ⟨w.heap.size, 2, none⟩ = some (.slice B m d) ∧ w'.cell? ⟨w.heap.size, 3, none⟩ = some (.int .i64 t0) ∧ w'.cell? ⟨g2, 0, none⟩ = some (.int .i64 k) ∧ w'.cell? ⟨g2, 1, none⟩ = some (.int .i64 o) ∧ w'.cell? ⟨g2, 2, none⟩ = some (.int .i64 a) ∧ w'.cell? ⟨g2, 3, none⟩ = some (.int .i64 b) ∧ w'.cell? ⟨g2, 4, none⟩ = some (.int .i64 c0) ∧ w'.cell? ⟨g2, 5, none⟩ = some (.int .i64 d0) ∧ w'.cell? ⟨g2, 6, none⟩ = some (.int .i64 y)) (first | with_reducible exact Kp47.of HC3.out HW3.out (Below.drew (Below.refl _ _)) | with_reducible exact Kp47.drew HC3.out HW3.out (by assumption) | with_reducible exact Kp47.ad HC3.out HW3.out (by assumption) _ | with_reducible exact Kp47.alloc HC3.out HW3.out (by assumption) _ | with_reducible exact Kp47.after HC3.out HW3.out (by assumption) (by assumption))
          (first | (go_at_call 19; refine (readRow_yes i0 ((m : Int) + 1) y t0 _ HR2.out).mono ?_; rintro e u1 ⟨R, rc, rfl, RR, bR⟩))
        all_goals
          have hF := (@Kp47.b v3 (w.heap.size) (g2) (.int .i64 i0) (.slice A n c) (.slice B m d) (.int .i64 t0) (.int .i64 k) (.int .i64 o) (.int .i64 a) (.int .i64 b) (.int .i64 c0) (.int .i64 d0) (.int .i64 y) _ (by assumption))
          rename_i hHx
          clear hHx
          go_wp2
          refine bodyPost_ret (v := .slice (some ⟨u1.heap.size, 0, none⟩) 1 1) (by simp [results, Try.results9, go_sem]) rfl ?_
          exact RetMsgs.one (f := i0) (t := 1) (z := [6, i0, ((m : Int) + 1), y, t0]) HV.out rfl (Nat.le_trans (Nat.le_of_lt hw2) (Nat.le_trans (Nat.le_of_lt HW3.out.lt) bR.size)) (Blk.new _ _ _) ((RR.mono (Nat.le_trans (Nat.le_of_lt hw2) (Nat.le_of_lt HW3.out.lt))).alloc _) (fun a ha => Nat.ne_of_lt (RR.lt a ha)) (bthen HF.out hF)
      · have HR2 := Lib.hid (send_ask hq hR.out (by have := hL.out; omega) hp h4)
        have HV := Lib.hid (show sendL i0 t0 wl gl = [⟨i0, 0, [1, i0, ((m : Int) + 1), o, a, b, c0, d0]⟩] by unfold sendL sendM; rw [if_pos ⟨hq, by rw [hR.out, hL.out]; exact hmn⟩, hR.out, hp, if_neg h4])
        clear hp hq
        have h4b : (k == 4) = false := by simpa using h4
        go_wp2_with fail
        refine c2.mono ?_
        rintro e v2 ⟨rfl, b2⟩
        have f2 := bthen f1 b2
        have HC2' := Lib.hid (HC1.out.below b2)
        clear c2 b2 lt_r_c r_c0 r_c1 r_c2 r_c3
        go_wp2
        obtain ⟨v3, hv3⟩ : ∃ v : World, v = v2.alloc (.cells #[.int .i64 k, .int .i64 o, .int .i64 a, .int .i64 b, .int .i64 c0, .int .i64 d0, .int .i64 y] 45) := ⟨_, rfl⟩
        try rw [← hv3]
        obtain ⟨g2, hg2⟩ : ∃ g, g = v2.heap.size := ⟨_, rfl⟩
        try rw [← hg2]
        have HC3 : Hid (Blk v3 w.heap.size 32 #[.int .i64 i0, .slice A n c, .slice B m d, .int .i64 t0]) := by rw [hv3]; exact HC2'.out.alloc _
        have HW3 : Hid (Blk v3 g2 45 #[.int .i64 k, .int .i64 o, .int .i64 a, .int .i64 b, .int .i64 c0, .int .i64 d0, .int .i64 y]) := by rw [hv3, hg2]; exact Blk.new _ _ _
        have HF : Hid (Below w.heap.size w v3) := by rw [hv3]; exact f2.alloc f2.size _
        have hgw : w.heap.size < g2 := by rw [hg2]; exact HC2'.out.lt
        clear hv3 hg2 f1 f2 HC2'
        have hw2 := hgw
        have q_c0 : v3.cell? ⟨w.heap.size, 0, none⟩ = some (.int .i64 i0) := HC3.out.cell 0
        have q_c1 : v3.cell? ⟨w.heap.size, 1, none⟩ = some (.slice A n c) := HC3.out.cell 1
        have q_c2 : v3.cell? ⟨w.heap.size, 2, none⟩ = some (.slice B m d) := HC3.out.cell 2
        have q_c3 : v3.cell? ⟨w.heap.size, 3, none⟩ = some (.int .i64 t0) := HC3.out.cell 3
        have lt_w := HW3.out.lt
        have q_w0 : v3.cell? ⟨g2, 0, none⟩ = some (.int .i64 k) := HW3.out.cell 0
        have q_w1 : v3.cell? ⟨g2, 1, none⟩ = some (.int .i64 o) := HW3.out.cell 1
        have q_w2 : v3.cell? ⟨g2, 2, none⟩ = some (.int .i64 a) := HW3.out.cell 2
        have q_w3 : v3.cell? ⟨g2, 3, none⟩ = some (.int .i64 b) := HW3.out.cell 3
        have q_w4 : v3.cell? ⟨g2, 4, none⟩ = some (.int .i64 c0) := HW3.out.cell 4
        have q_w5 : v3.cell? ⟨g2, 5, none⟩ = some (.int .i64 d0) := HW3.out.cell 5
        have q_w6 : v3.cell? ⟨g2, 6, none⟩ = some (.int .i64 y) := HW3.out.cell 6
        go_region_held_law (fun w' => Below v3.heap.size v3 w' ∧ w'.cell? ⟨w.heap.size, 0, none⟩ = some (.int .i64 i0) ∧ w'.cell? ⟨w.heap.size, 1, none⟩ = some (.slice A n c) ∧ w'.cell? ⟨w.heap.size, 2, none⟩ = some (.slice B m d) ∧ w'.cell? ⟨w.heap.size, 3, none⟩ = some (.int .i64 t0) ∧ w'.cell? ⟨g2, 0, none⟩ = some (.int .i64 k) ∧ w'.cell? ⟨g2, 1, none⟩ = some (.int .i64 o) ∧ w'.cell? ⟨g2, 2, none⟩ = some (.int .i64 a) ∧ w'.cell? ⟨g2, 3, none⟩ = some (.int .i64 b) ∧ w'.cell? ⟨g2, 4, none⟩ = some (.int .i64 c0) ∧ w'.cell? ⟨g2, 5, none⟩ = some (.int .i64 d0) ∧ w'.cell? ⟨g2, 6, none⟩ = some (.int .i64 y)) (first | with_reducible exact Kp47.of HC3.out HW3.out (Below.drew (Below.refl _ _)) | with_reducible exact Kp47.drew HC3.out HW3.out (by assumption) | with_reducible exact Kp47.ad HC3.out HW3.out (by assumption) _ | with_reducible exact Kp47.alloc HC3.out HW3.out (by assumption) _ | with_reducible exact Kp47.after HC3.out HW3.out (by assumption) (by assumption))
          (first | (go_at_call 20; refine (askRow_yes i0 ((m : Int) + 1) o a b c0 d0 _ HR2.out).mono ?_; rintro e u1 ⟨R, rc, rfl, RR, bR⟩))
        all_goals
          have hF := (@Kp47.b v3 (w.heap.size) (g2) (.int .i64 i0) (.slice A n c) (.slice B m d) (.int .i64 t0) (.int .i64 k) (.int .i64 o) (.int .i64 a) (.int .i64 b) (.int .i64 c0) (.int .i64 d0) (.int .i64 y) _ (by assumption))
          rename_i hHx
          clear hHx
          go_wp2
          refine bodyPost_ret (v := .slice (some ⟨u1.heap.size, 0, none⟩) 1 1) (by simp [results, Try.results9, go_sem]) rfl ?_
          exact RetMsgs.one (f := i0) (t := 0) (z := [1, i0, ((m : Int) + 1), o, a, b, c0, d0]) HV.out rfl (Nat.le_trans (Nat.le_of_lt hw2) (Nat.le_trans (Nat.le_of_lt HW3.out.lt) bR.size)) (Blk.new _ _ _) ((RR.mono (Nat.le_trans (Nat.le_of_lt hw2) (Nat.le_of_lt HW3.out.lt))).alloc _) (fun a ha => Nat.ne_of_lt (RR.lt a ha)) (bthen HF.out hF)
end Go.Proofs.Ytckbnfgdjdppfaa
