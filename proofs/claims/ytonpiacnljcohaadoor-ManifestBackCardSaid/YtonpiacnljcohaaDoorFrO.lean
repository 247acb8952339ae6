/- frame.Open: the frame with which bytes begin, or why there is none (a panic that is recovered). -/
import Derived.Test.YtonpiacnljcohaaDoorFrC
import Derived.Test.YtonpiacnljcohaaDoorPAx35
import Derived.Test.YtonpiacnljcohaaDoorPAx33
import Derived.Test.YtonpiacnljcohaaDoorPAx40
import Derived.Tactics2
import Derived.Defers
import Derived.Recover
import Derived.Laws.Pointers
import Derived.RegionTactic
import Derived.BigRegion

set_option linter.unusedVariables false
set_option linter.unusedSimpArgs false
namespace Go.Proofs.YtonpiacnljcohaaDoor.Fr
open Go Go.RowKit Go.Proofs.YtonpiacnljcohaaDoorW.PrintWords Go.Proofs.YtonpiacnljcohaaDoorW.PrintLast Go.Proofs.YtonpiacnljcohaaDoorW.PrintMore Go.Proofs.YtonpiacnljcohaaDoor.PA
theorem check_ok (e : Int) (w : World) : Calls Tryd.prog 39 #[.bool true, .int .i64 e] w fun x w' => x = .returned (.tuple #[]) ∧ w = w' := by
  go_enter Tryd.func39, Tryd.ntmps39
  go_wp2
  go_end0
  exact ⟨rfl, rfl⟩
def stopV (e : Int) : Value := .iface 80 (.agg #[.int .i64 e])
theorem check_no (e : Int) (w : World) : Calls Tryd.prog 39 #[.bool false, .int .i64 e] w fun x w' => x = .panicked [{ v := stopV e, recovered := false }] ∧ w = w' := by
  have hp : ∀ (v : Value) (w : World), (Instr.panic (.iface 80 v)).run Tryd.prog w = (Sem.run Tryd.prog (goPanic (.iface 80 v)) w) := fun _ _ => rfl
  go_enter Tryd.func39, Tryd.ntmps39
  go_wp2
  exact ⟨rfl, rfl, rfl⟩
theorem catch_idle (p2 p3 p4 : Addr) (w : World) :
    CallsD Tryd.prog 38 #[.pointer (some p2), .pointer (some p3), .pointer (some p4)] .returning w fun e u' w' => e = .returned (.tuple #[]) ∧ u' = .returning ∧ w' = w := by
  refine callsD_of_wpS Tryd.func38 rfl fun c₀ cs hu => ?_
  apply wpS_seq
  apply wpS_region
  simp [wpOpsS, go_sem, recoverD, hu, Tryd.ntmps38, Exit.thenS]
  apply wpS_seq
  apply wpS_region
  simp [wpOpsS, go_sem, Exit.thenS]
  refine wpS_cond (t := false) (by simp [Act.eval]) ?_
  simp only [Bool.false_eq_true, if_false]
  refine wpS_of_wp (wp_skip ?_)
  cases c₀
  simp_all [bodyPostS, results, Tryd.results38]
structure Res (w : World) (n : Nat) (r1 : Int) (v : Value) (r3 r4 : Int) : Prop where
  b0 : w.heap[n]? = some (.cells #[.int .u8 r1, v] 33 (0, 0))
  b1 : w.heap[n + 1]? = some (.cells #[.int .i64 r3] 3 (0, 0))
  b2 : w.heap[n + 2]? = some (.cells #[.int .i64 r4] 23 (0, 0))
theorem cell_of_blk {w : World} {n i : Nat} {cs : Array Value} {t : TypeId} {v : Value} (h : w.heap[n]? = some (.cells cs t (0, 0))) (hi : cs[i]? = some v) : w.cell? ⟨n, i, none⟩ = some v := (blk_cell h i).trans hi
set_option maxHeartbeats 1000000 in
theorem catch_stop (n : Nat) (e : Int) (w : World) (r1 : Int) (v : Value) (r3 r4 : Int) (hR : Res w n r1 v r3 r4) :
    CallsD Tryd.prog 38 #[.pointer (some ⟨n, 0, none⟩), .pointer (some ⟨n + 1, 0, none⟩), .pointer (some ⟨n + 2, 0, none⟩)] (.panicking [{ v := stopV e, recovered := false }]) w fun x u' w' => x = .returned (.tuple #[]) ∧ u' = .panicking [{ v := stopV e, recovered := true }] ∧ Res w' n 0 (.slice none 0 0) 0 e ∧ Below n w w' := by
  have h20 := cell_of_blk (i := 0) hR.b0 rfl
  have h21 := cell_of_blk (i := 1) hR.b0 rfl
  have h3 := cell_of_blk (i := 0) hR.b1 rfl
  have h4 := cell_of_blk (i := 0) hR.b2 rfl
  have z20 := blk_frozen hR.b0 0
  have z21 := blk_frozen hR.b0 1
  have z3 := blk_frozen hR.b1 0
  have z4 := blk_frozen hR.b2 0
  have hlt : n + 2 < w.heap.size := (Array.getElem?_eq_some_iff.1 hR.b2).1
  refine callsD_of_wpS Tryd.func38 rfl fun c₀ cs hu => ?_
  apply wpS_seq
  apply wpS_region
  simp [wpOpsS, go_sem, recoverD, hu, Tryd.ntmps38, Exit.thenS, stopV]
  apply wpS_seq
  apply wpS_region
  simp [wpOpsS, go_sem, Exit.thenS]
  refine wpS_cond (t := true) (by simp [Act.eval]) ?_
  simp only [if_true]
  refine wpS_of_wp ?_
  have hta : ∀ (v : Value) (W : World), (Instr.typeAssert (.iface 80 v) 20 80 true).run Tryd.prog W = .ok (.tuple #[v, .bool true]) W := fun v W => by kernel_rfl
  simp only [show (Array.replicate 17 undef : Array Value) = #[undef, undef, undef, undef, undef, undef, undef, undef, undef, undef, undef, undef, undef, undef, undef, undef, undef] from rfl, List.setIfInBounds_toArray, List.set_cons_zero, List.set_cons_succ, List.append_toArray, List.cons_append, List.nil_append]
  go_wp2
  have hne : ¬ (n = w.heap.size) := by omega
  have hne1 : ¬ (n + 1 = w.heap.size) := by omega
  have hne2 : ¬ (n + 2 = w.heap.size) := by omega
  have hlt0 : n < w.heap.size := by omega
  have hlt1 : n + 1 < w.heap.size := by omega
  go_region
  refine ⟨rfl, _, rfl, .tuple #[], by simp [results, Tryd.results38], rfl, rfl, ⟨?_, ?_, ?_⟩, ?_⟩
  · exact blk_drew (blk_alloc (blk_far (blk_far (blk_set (blk_set hR.b0 0 _) 1 _) (by simp) _) (by simp) _) _)
  · exact blk_drew (blk_alloc (blk_far (blk_set (blk_far (blk_far hR.b1 (by simp) _) (by simp) _) 0 _) (by simp) _) _)
  · exact blk_drew (blk_alloc (blk_set (blk_far (blk_far (blk_far hR.b2 (by simp) _) (by simp) _) (by simp) _) 0 _) _)
  · exact below_drew (((((((Below.refl n w).setCell (p := ⟨n, 0, none⟩) (Nat.le_refl _) _).setCell (p := ⟨n, 1, none⟩) (Nat.le_refl _) _).setCell (p := ⟨n + 1, 0, none⟩) (Nat.le_succ _) _).setCell (p := ⟨n + 2, 0, none⟩) (show n ≤ n + 2 by omega) _).alloc (by simp; omega) _))

/-- What Open answers. -/
def PostO (w : World) (r1 : Int) (r2 : List Int) (r3 r4 : Int) (e : Ending) (w' : World) : Prop :=
  ∃ v1_ : Value, e = .returned (.tuple #[.agg #[.int .u8 r1, v1_], .int .i64 r3, .int .i64 r4]) ∧ Kd.R (Kd.int .u8) 5 w' w.heap.size (fun _ => True) v1_ r2 ∧ Below w.heap.size w w'
def dfr (n : Nat) : List Deferred := [{ target := Target.fn (Fn.func 38) #[.pointer (some ⟨n, 0, none⟩), .pointer (some ⟨n + 1, 0, none⟩), .pointer (some ⟨n + 2, 0, none⟩)], args := #[] }]
theorem res_read (T : Array Value) (n : Nat) (W : World) (r1 : Int) (v : Value) (r3 r4 : Int) (hv : v.oneCell' = true) (hR : Res W n r1 v r3 r4) (h2 : T[2]?.getD undef = .pointer (some ⟨n, 0, none⟩)) (h3 : T[3]?.getD undef = .pointer (some ⟨n + 1, 0, none⟩)) (h4 : T[4]?.getD undef = .pointer (some ⟨n + 2, 0, none⟩)) :
    (results Tryd.f18 T).run Tryd.prog W = .ok (.tuple #[.agg #[.int .u8 r1, v], .int .i64 r3, .int .i64 r4]) W := by
  have h20 := cell_of_blk (i := 0) (v := .int .u8 r1) hR.b0 rfl
  have h21 := cell_of_blk (i := 1) (v := v) hR.b0 rfl
  have g3 := cell_of_blk (i := 0) (v := .int .i64 r3) hR.b1 rfl
  have g4 := cell_of_blk (i := 0) (v := .int .i64 r4) hR.b2 rfl
  simp [results, Tryd.results18, go_sem, h2, h3, h4, h20, h21, g3, g4]
theorem door_stop (T : Array Value) (w W : World) (e : Int) (r1 : Int) (v : Value) (r3 r4 : Int) (hR : Res W w.heap.size r1 v r3 r4) (hb : Below w.heap.size w W) (h2 : T[2]?.getD undef = .pointer (some ⟨w.heap.size, 0, none⟩)) (h3 : T[3]?.getD undef = .pointer (some ⟨w.heap.size + 1, 0, none⟩)) (h4 : T[4]?.getD undef = .pointer (some ⟨w.heap.size + 2, 0, none⟩)) :
    bodyPostD Tryd.prog Tryd.f18 (PostO w 0 [] 0 e) (Exit.panic [{ v := stopV e, recovered := false }]) { tmps := T, defers := dfr w.heap.size } W := by
  refine leaves_cons (f := 38) (args := #[.pointer (some ⟨w.heap.size, 0, none⟩), .pointer (some ⟨w.heap.size + 1, 0, none⟩), .pointer (some ⟨w.heap.size + 2, 0, none⟩)]) (by simp) (by simp [go_sem]) ?_
  refine (catch_stop w.heap.size e W r1 v r3 r4 hR).mono ?_
  rintro x u' w'' ⟨rfl, rfl, hR2, hb2⟩
  simp only [Leaves, settle, List.dropWhile_nil]
  exact ⟨_, res_read T w.heap.size w'' 0 (.slice none 0 0) 0 e rfl hR2 h2 h3 h4, _, rfl, Kd.R_nil _ _ _ _ _, hb.trans hb2⟩

theorem door_ret (T : Array Value) (w W : World) (r1 : Int) (v : Value) (r2 : List Int) (r3 r4 : Int) (hR : Res W w.heap.size r1 v r3 r4) (hv : Kd.R (Kd.int .u8) 5 W w.heap.size (fun _ => True) v r2) (hb : Below w.heap.size w W) (h2 : T[2]?.getD undef = .pointer (some ⟨w.heap.size, 0, none⟩)) (h3 : T[3]?.getD undef = .pointer (some ⟨w.heap.size + 1, 0, none⟩)) (h4 : T[4]?.getD undef = .pointer (some ⟨w.heap.size + 2, 0, none⟩)) :
    bodyPostD Tryd.prog Tryd.f18 (PostO w r1 r2 r3 r4) Exit.ret { tmps := T, defers := dfr w.heap.size } W := by
  refine leaves_cons (f := 38) (args := #[.pointer (some ⟨w.heap.size, 0, none⟩), .pointer (some ⟨w.heap.size + 1, 0, none⟩), .pointer (some ⟨w.heap.size + 2, 0, none⟩)]) (by simp) (by simp [go_sem]) ?_
  refine (catch_idle _ _ _ W).mono ?_
  rintro x u' w'' ⟨rfl, rfl, rfl⟩
  simp only [Leaves, settle]
  obtain ⟨A, c, rfl⟩ := Kd.R_slice hv
  exact ⟨_, res_read T w.heap.size w'' r1 _ r3 r4 rfl hR h2 h3 h4, _, rfl, hv, hb⟩
/-- The world behind the three variables. -/
def W3 (w : World) : World := ((w.alloc (.cells #[.int .u8 0, .slice none 0 0] 33)).alloc (.cells #[.int .i64 0] 3)).alloc (.cells #[.int .i64 0] 23)
theorem res_W3 (w : World) : Res (W3 w) w.heap.size 0 (.slice none 0 0) 0 0 := by
  refine ⟨blk_alloc (blk_alloc (blk_new w _) _) _, blk_alloc ?_ _, ?_⟩
  · have := blk_new (w.alloc (.cells #[.int .u8 0, .slice none 0 0] 33)) (.cells #[.int .i64 0] 3)
    rwa [World.size_alloc] at this
  · have := blk_new ((w.alloc (.cells #[.int .u8 0, .slice none 0 0] 33)).alloc (.cells #[.int .i64 0] 3)) (.cells #[.int .i64 0] 23)
    rwa [World.size_alloc, World.size_alloc] at this
theorem below_W3 (w : World) : Below w.heap.size w (W3 w) := below_alloc (below_alloc (below_alloc (Below.refl _ _) _) _) _
theorem Res.below {w W : World} {n : Nat} {r1 : Int} {v : Value} {r3 r4 : Int} (h : Res w n r1 v r3 r4) (hb : Below w.heap.size w W) : Res W n r1 v r3 r4 := ⟨blk_below h.b0 hb, blk_below h.b1 hb, blk_below h.b2 hb⟩
set_option maxHeartbeats 4000000 in
set_option maxRecDepth 100000 in
theorem Open_none (A0 : Option Addr) (c0 : Nat) (w : World) :
    Calls Tryd.prog 18 #[.slice A0 0 c0] w (PostO w 0 [] 0 22) := by
  have hmf : ∀ (fn : Fn) (first cap : Array Value) (w : World), (Instr.makeFunc fn first cap).run Tryd.prog w = .ok (.func fn first cap) w := fun _ _ _ _ => rfl
  go_enter_defers Tryd.func18, Tryd.ntmps18
  go_wp2_with (go_at_call 39; refine (check_no _ _).mono ?_; rintro e w1 ⟨rfl, rfl⟩)
  exact door_stop _ w (W3 w) 22 _ _ _ _ (res_W3 w) (below_W3 w) rfl rfl rfl

theorem add0 (ad : Addr) : ad.add (Int.toNat 0) = ad := by simp [Addr.add]
/-- The first arm: behind the first question the world gets a letter. -/
theorem first_W {w w1 : World} (h : W3 w = w1) : Res w1 w.heap.size 0 (.slice none 0 0) 0 0 ∧ Below w.heap.size w w1 := by
  subst h
  exact ⟨res_W3 w, below_W3 w⟩
set_option maxHeartbeats 4000000 in
set_option maxRecDepth 100000 in
theorem Open_zero (A0 : Option Addr) (c0 : Nat) (l0 : List Int) (w : World) (hr0 : Kd.C (Kd.int .u8) w A0 l0.length l0) (hc0 : l0.length ≤ c0) (hl : 0 < l0.length) (h0 : rd l0 0 = 0) :
    Calls Tryd.prog 18 #[.slice A0 l0.length c0] w (PostO w 0 [] 0 4) := by
  have hmf : ∀ (fn : Fn) (first cap : Array Value) (w : World), (Instr.makeFunc fn first cap).run Tryd.prog w = .ok (.func fn first cap) w := fun _ _ _ _ => rfl
  obtain ⟨ad, rfl, hx⟩ := Kd.at_int hr0 (0 : Int) (by omega) (by omega)
  rw [h0] at hx
  rw [add0] at hx
  clear h0 hr0
  have hl2 : 0 < (l0.length : Int) := by omega
  go_enter_defers Tryd.func18, Tryd.ntmps18
  go_wp2_with (first | (go_at_call 39; (with_reducible refine (check_ok 22 _).mono ?_); rintro e w1 ⟨rfl, hw⟩; obtain ⟨hR, hb⟩ := first_W hw; have HR := Aside0.mk hR; have HB := Aside0.mk hb; have hx1 := pw_cell_below hb hx; clear hR hb hw hx) | (go_at_call 39; (with_reducible refine (check_no 4 _).mono ?_); rintro e w2 ⟨rfl, rfl⟩))
  exact door_stop _ w _ 4 _ _ _ _ HR.out HB.out rfl rfl rfl
theorem ge_of {l : List Int} (h : 0 < l.length) : (1 : Int) ≤ (l.length : Int) := by omega
/-- What the walk of the sums goes by. -/
structure Mid (l0 : List Int) (c0 : Nat) (w : World) (ad : Addr) (en : Int) (n2 : Nat) (s : List Int) (A3 : Option Addr) (n4 c4 : Nat) (S T : ByteArray) : Prop where
  cut2 : ∀ W : World, (Instr.slice 22 (.slice (some ad) l0.length c0) none (some (.int .i64 en)) none).run Tryd.prog W = .ok (.slice (some ad) n2 c0) W
  sum2 : ∀ W : World, Below w.heap.size w W → Calls Tryd.prog 35 #[.slice (some ad) n2 c0] W fun e w' => ∃ v0_ : Value, e = .returned (v0_) ∧ Kd.R (Kd.int .u8) 5 w' W.heap.size (fun _ => True) v0_ s ∧ Below W.heap.size W w'
  cut4 : ∀ W : World, (Instr.slice 22 (.slice (some ad) l0.length c0) (some (.int .i64 en)) (some (.int .i64 (en + 4))) none).run Tryd.prog W = .ok (.slice A3 n4 c4) W
  str4 : ∀ W : World, Below w.heap.size w W → (convert 22 9 (.slice A3 n4 c4)).run Tryd.prog W = .ok (.string T) W
  strs : ∀ (W : World) (b : Nat) (v : Value), Kd.R (Kd.int .u8) 5 W b (fun _ => True) v s → (convert 22 9 v).run Tryd.prog W = .ok (.string S) W
theorem mid_of (l0 : List Int) (c0 : Nat) (w : World) (ad : Addr) (en : Int) (s : List Int) (hr0 : Kd.C (Kd.int .u8) w (some ad) l0.length l0) (hc0 : l0.length ≤ c0) (h0 : 0 ≤ en) (h4 : en + 4 ≤ (l0.length : Int)) (hG : Gl w) (hs : frame_sum.f (l0.take en.toNat) = some s) :
    ∃ n2 A3 n4 c4, Mid l0 c0 w ad en n2 s A3 n4 c4 (strOfNums s) (strOfNums ((l0.take (en + 4).toNat).drop en.toNat)) := by
  obtain ⟨i0, hi0, _, hsz, _⟩ := info_parts info5
  obtain ⟨hcut2, hA2, hC2⟩ := print_take_of (P := Tryd.prog) (Value.int .u8) 0 22 5 .i64 Tryd.underlying22 hi0 hsz (some ad) c0 l0 en h0 (by omega) hc0
  obtain ⟨A3, hcut4, hA4, hC4⟩ := print_mid_of (P := Tryd.prog) (Value.int .u8) 0 22 5 .i64 .i64 Tryd.underlying22 hi0 hsz (some ad) c0 l0 en (en + 4) h0 (by omega) h4 hc0
  have HC2 := Kd.C_of_reads (h1 := fun _ => rfl) (hA2 _ (Kd.reads_of_C hr0))
  have HC4 := Kd.C_of_reads (h1 := fun _ => rfl) (hA4 _ (Kd.reads_of_C hr0))
  exact ⟨_, A3, _, _, hcut2, fun W hb => frame_sum.calls (some ad) c0 _ s W (Kd.C_below HC2 hb) hC2 (hG.below hb) hs, hcut4, fun W hb => Kd.C_string (P := Tryd.prog) (A := A3) (c := c0 - en.toNat) Tryd.underlying22 Tryd.underlying5 Tryd.underlying9 (Kd.C_below HC4 hb), fun W b v hv => own_string (P := Tryd.prog) Tryd.underlying22 Tryd.underlying5 Tryd.underlying9 (Kd.own_of_R hv)⟩
/-- What the walks behind the first byte go by. -/
structure Pre (A0 : Option Addr) (c0 : Nat) (l0 : List Int) (w : World) (ad : Addr) (x0 : Int) (A1 : Option Addr) (n1 : Nat) (g1 g2 g3 : Int) : Prop where
  ha : A0 = some ad
  hx : w.cell? ad = some (.int .u8 x0)
  hcut : ∀ W : World, (Instr.slice 22 (.slice (some ad) l0.length c0) (some (.int .i64 1)) none none).run Tryd.prog W = .ok (.slice A1 n1 (c0 - 1)) W
  hcall : ∀ W : World, Below w.heap.size w W → Calls Tryd.prog 40 #[.slice A1 n1 (c0 - 1)] W fun e w' => e = .returned (.tuple #[.int .u64 g1, .int .i64 g2, .int .i64 g3]) ∧ Drawn0 W w'
theorem pre_of (A0 : Option Addr) (c0 : Nat) (l0 : List Int) (w : World) (hr0 : Kd.C (Kd.int .u8) w A0 l0.length l0) (hc0 : l0.length ≤ c0) (hl : 0 < l0.length) (g1 g2 g3 : Int) (hg : leb_GetUint.f 20 (l0.drop 1) = some (g1, g2, g3)) :
    ∃ ad A1 n1, Pre A0 c0 l0 w ad (rd l0 0) A1 n1 g1 g2 g3 := by
  obtain ⟨i0, hi0, _, hsz, _⟩ := info_parts info5
  obtain ⟨A1, hcut, hA, hC⟩ := print_drop_of (P := Tryd.prog) (Value.int .u8) 0 22 5 .i64 Tryd.underlying22 hi0 hsz A0 c0 l0 1 (by omega) (ge_of hl) hc0
  have HC := Kd.C_of_reads (h1 := fun _ => rfl) (hA _ (Kd.reads_of_C hr0))
  obtain ⟨ad, rfl, hx⟩ := Kd.at_int hr0 (0 : Int) (by omega) (by omega)
  rw [add0] at hx
  exact ⟨ad, A1, _, rfl, hx, hcut, fun W hb => leb_GetUint.calls 20 A1 (c0 - 1) (l0.drop 1) g1 g2 g3 W (Kd.C_below HC hb) hC hg⟩
set_option maxHeartbeats 4000000 in
set_option maxRecDepth 100000 in
theorem Open_no (A0 : Option Addr) (c0 : Nat) (l0 : List Int) (w : World) (ad : Addr) (x0 : Int) (A1 : Option Addr) (n1 : Nat) (g1 g2 g3 : Int) (hP : Pre A0 c0 l0 w ad x0 A1 n1 g1 g2 g3) (hl : 0 < l0.length) (hlen : l0.length ≤ 140737488351232) (h0 : ¬ x0 = 0) (h3 : ¬ g3 = 0) :
    Calls Tryd.prog 18 #[.slice A0 l0.length c0] w (PostO w 0 [] 0 g3) := by
  have hmf : ∀ (fn : Fn) (first cap : Array Value) (w : World), (Instr.makeFunc fn first cap).run Tryd.prog w = .ok (.func fn first cap) w := fun _ _ _ _ => rfl
  obtain ⟨rfl, hx, hcut, hcall⟩ := hP
  have HCALL := Aside0.mk hcall
  clear hcall
  have h0b : (x0 != 0) = true := by simpa using h0
  have hl2 : 0 < (l0.length : Int) := by omega
  clear h0
  have h3b : (g3 == 0) = false := by simpa using h3
  clear h3
  go_enter_defers Tryd.func18, Tryd.ntmps18
  go_wp2_with (first | (go_at_call 39; (with_reducible refine (check_ok 22 _).mono ?_); rintro e w1 ⟨rfl, hw⟩; obtain ⟨hR, hb⟩ := first_W hw; have HR := Aside0.mk hR; have HB := Aside0.mk hb; have hx1 := pw_cell_below hb hx; clear hR hb hw hx) | (go_at_call 39; (with_reducible refine (check_ok 4 _).mono ?_); rintro e w2 ⟨rfl, rfl⟩) | (go_at_call 40; (with_reducible refine (HCALL.out _ HB.out).mono ?_); rintro e w3 ⟨rfl, ⟨nd, rfl⟩⟩) | (go_at_call 39; (with_reducible refine (check_no g3 _).mono ?_); rintro e w2 ⟨rfl, rfl⟩))
  exact door_stop _ w _ g3 _ _ _ _ (HR.out.below (pw_below_drewN (Below.refl _ _) _)) (pw_below_drewN HB.out _) rfl rfl rfl

set_option maxHeartbeats 4000000 in
set_option maxRecDepth 100000 in
theorem Open_long (A0 : Option Addr) (c0 : Nat) (l0 : List Int) (w : World) (ad : Addr) (x0 : Int) (A1 : Option Addr) (n1 : Nat) (g1 g2 g3 : Int) (hP : Pre A0 c0 l0 w ad x0 A1 n1 g1 g2 g3) (hl : 0 < l0.length) (hlen : l0.length ≤ 140737488351232) (h0 : ¬ x0 = 0) (h3 : g3 = 0) (h5 : 1048576 < g1) :
    Calls Tryd.prog 18 #[.slice A0 l0.length c0] w (PostO w 0 [] 0 5) := by
  have hmf : ∀ (fn : Fn) (first cap : Array Value) (w : World), (Instr.makeFunc fn first cap).run Tryd.prog w = .ok (.func fn first cap) w := fun _ _ _ _ => rfl
  obtain ⟨rfl, hx, hcut, hcall⟩ := hP
  have HCALL := Aside0.mk hcall
  clear hcall
  have h0b : (x0 != 0) = true := by simpa using h0
  have hl2 : 0 < (l0.length : Int) := by omega
  clear h0
  subst h3
  have h5b : decide (g1 ≤ 1048576) = false := decide_eq_false (by omega)
  clear h5
  go_enter_defers Tryd.func18, Tryd.ntmps18
  go_wp2_with (first | (go_at_call 39; (with_reducible refine (check_ok 22 _).mono ?_); rintro e w1 ⟨rfl, hw⟩; obtain ⟨hR, hb⟩ := first_W hw; have HR := Aside0.mk hR; have HB := Aside0.mk hb; have hx1 := pw_cell_below hb hx; clear hR hb hw hx) | (go_at_call 39; (with_reducible refine (check_ok 4 _).mono ?_); rintro e w2 ⟨rfl, rfl⟩) | (go_at_call 40; (with_reducible refine (HCALL.out _ HB.out).mono ?_); rintro e w3 ⟨rfl, ⟨nd, rfl⟩⟩) | (go_at_call 39; (with_reducible refine (check_ok 0 _).mono ?_); rintro e w2 ⟨rfl, rfl⟩) | (go_at_call 39; (with_reducible refine (check_no 5 _).mono ?_); rintro e w2 ⟨rfl, rfl⟩))
  exact door_stop _ w _ 5 _ _ _ _ (HR.out.below (pw_below_drewN (Below.refl _ _) _)) (pw_below_drewN HB.out _) rfl rfl rfl

set_option maxHeartbeats 4000000 in
set_option maxRecDepth 100000 in
theorem Open_cut (A0 : Option Addr) (c0 : Nat) (l0 : List Int) (w : World) (ad : Addr) (x0 : Int) (A1 : Option Addr) (n1 : Nat) (g1 g2 g3 : Int) (hP : Pre A0 c0 l0 w ad x0 A1 n1 g1 g2 g3) (hl : 0 < l0.length) (hlen : l0.length ≤ 140737488351232) (h0 : ¬ x0 = 0) (h3 : g3 = 0) (h5 : g1 ≤ 1048576) (h10 : 0 ≤ g1) (h11 : 0 ≤ g2) (h12 : g2 ≤ 10) (h6 : (l0.length : Int) - (1 + g2 + g1) < 4) :
    Calls Tryd.prog 18 #[.slice A0 l0.length c0] w (PostO w 0 [] 0 3) := by
  have hmf : ∀ (fn : Fn) (first cap : Array Value) (w : World), (Instr.makeFunc fn first cap).run Tryd.prog w = .ok (.func fn first cap) w := fun _ _ _ _ => rfl
  obtain ⟨rfl, hx, hcut, hcall⟩ := hP
  have HCALL := Aside0.mk hcall
  clear hcall
  have h0b : (x0 != 0) = true := by simpa using h0
  have hl2 : 0 < (l0.length : Int) := by omega
  clear h0
  subst h3
  have h5b : decide (g1 ≤ 1048576) = true := decide_eq_true h5
  have h6b : decide (4 ≤ (l0.length : Int) - (1 + g2 + g1)) = false := decide_eq_false (by omega)
  go_enter_defers Tryd.func18, Tryd.ntmps18
  go_wp2_with (first | (go_at_call 39; (with_reducible refine (check_ok 22 _).mono ?_); rintro e w1 ⟨rfl, hw⟩; obtain ⟨hR, hb⟩ := first_W hw; have HR := Aside0.mk hR; have HB := Aside0.mk hb; have hx1 := pw_cell_below hb hx; clear hR hb hw hx) | (go_at_call 39; (with_reducible refine (check_ok 4 _).mono ?_); rintro e w2 ⟨rfl, rfl⟩) | (go_at_call 40; (with_reducible refine (HCALL.out _ HB.out).mono ?_); rintro e w3 ⟨rfl, ⟨nd, rfl⟩⟩) | (go_at_call 39; (with_reducible refine (check_ok 0 _).mono ?_); rintro e w2 ⟨rfl, rfl⟩) | (go_at_call 39; (with_reducible refine (check_ok 5 _).mono ?_); rintro e w2 ⟨rfl, rfl⟩) | (go_at_call 39; (with_reducible refine (check_no 3 _).mono ?_); rintro e w2 ⟨rfl, rfl⟩))
  exact door_stop _ w _ 3 _ _ _ _ (HR.out.below (pw_below_drewN (Below.refl _ _) _)) (pw_below_drewN HB.out _) rfl rfl rfl

theorem results_put (T : Array Value) (N : Nat) (v : Value) (hN : N ≠ 2 ∧ N ≠ 3 ∧ N ≠ 4) : results Tryd.f18 (T.setIfInBounds N v) = results Tryd.f18 T := by
  simp [results, Tryd.results18, Array.getElem?_setIfInBounds_ne hN.1, Array.getElem?_setIfInBounds_ne hN.2.1, Array.getElem?_setIfInBounds_ne hN.2.2]
theorem leaves_congr {P : Program} {fn : Func} {T T' : Array Value} {R : Ending → World → Prop} (h : results fn T' = results fn T) : ∀ (ds : List Deferred) (u : FrameMode) (w : World), Leaves P fn T' R ds u w → Leaves P fn T R ds u w
  | [], .returning, w, hL => by simp only [Leaves] at hL ⊢; rwa [h] at hL
  | [], .panicking _, w, hL => hL
  | [], .run, w, hL => hL
  | d :: ds, u, w, hL => by
    simp only [Leaves] at hL ⊢
    obtain ⟨hu, fv, cap, f, args, ht, hi, hC⟩ := hL
    refine ⟨hu, fv, cap, f, args, ht, hi, hC.mono fun e u' w' hh => ?_⟩
    cases e with
    | returned v => exact leaves_congr h ds _ _ hh
    | panicked c => exact leaves_congr h ds _ _ hh
    | outgrown => exact hh
theorem put_panic {K : Act → World → Prop} {R : Ending → World → Prop} (N : Nat) (v : Value) (hN : N ≠ 2 ∧ N ≠ 3 ∧ N ≠ 4) : ∀ (c : List PanicEntry) (a : Act) (w : World), (Exit.then K (bodyPostD Tryd.prog Tryd.f18 R)) (.panic c) (a.put (some N) v) w → (Exit.then K (bodyPostD Tryd.prog Tryd.f18 R)) (.panic c) a w := by
  intro c a w h
  exact leaves_congr (results_put a.tmps N v hN) _ _ _ h
theorem blk3_drew {w : World} {n : Nat} {r1 : Int} {v : Value} {r3 r4 : Int} (h : Res w n r1 v r3 r4) : Res w.drew n r1 v r3 r4 := ⟨blk_drew h.b0, blk_drew h.b1, blk_drew h.b2⟩
section
variable {P : Program} {ops : Array Oper} {Q : Exit → Act → World → Prop}
/-- A call that panics. -/
theorem panics_ {oi : Oper} {N : Option Tmp} {a : Act} {w : World} {K : Act → World → Prop} {f : FuncId} {fn : Func} {aS : Array Operand} {ts : Array TypeId} (hf : P.funcs[f]? = some fn) (hname : (fn.name == "runtime.NumGoroutine") = false) (hb : fn.body.isSome = true) (args : Array Value)
    (hw : Region.wanted oi (yielded ops a.tmps) = true) (hN : oi.dst = N) (hop : oi.op = .call { callee := .value (.func f), args := aS, argTypes := ts }) (hargs : aS.map a.eval = args)
    (h : Calls P f args w fun e w' => ∃ c, e = .panicked c ∧ Q (.panic c) a w') : if Region.wanted oi (yielded ops a.tmps) = true then Oper.wp P oi a w K Q else K (a.put N undef) w := by
  rw [if_pos hw]
  have he := enters_ hf hname hb args w
  have hrun : (execOp a.eval oi).run P w = .ok (.enter f args) w := by
    unfold execOp
    simp [hop, resolve, Deferred.ofValue, invoke, Act.eval, hargs, he]
  unfold Oper.wp
  rw [hrun, Oper.upon_enter]
  refine h.mono fun e w'' hh => ?_
  obtain ⟨c, rfl, hk⟩ := hh
  exact hk
end
theorem stored {w9 : World} {n B : Nat} {A9 : Option Addr} {c9 : Nat} {y : List Int} (hR : Res w9 n 0 (.slice none 0 0) 0 0) (hO : Kd.R (Kd.int .u8) 5 w9 B (fun _ => True) (.slice A9 y.length c9) y) (hB : n + 2 < B) (x0 e : Int) :
    Res ((((w9.setCell ⟨n, 0, none⟩ (.int .u8 x0)).setCell ⟨n, 1, none⟩ (.slice A9 y.length c9)).setCell ⟨n + 1, 0, none⟩ (.int .i64 e)).setCell ⟨n + 2, 0, none⟩ (.int .i64 0)) n x0 (.slice A9 y.length c9) e 0 ∧
    Kd.R (Kd.int .u8) 5 ((((w9.setCell ⟨n, 0, none⟩ (.int .u8 x0)).setCell ⟨n, 1, none⟩ (.slice A9 y.length c9)).setCell ⟨n + 1, 0, none⟩ (.int .i64 e)).setCell ⟨n + 2, 0, none⟩ (.int .i64 0)) n (fun _ => True) (.slice A9 y.length c9) y := by
  refine ⟨⟨?_, ?_, ?_⟩, ?_⟩
  · exact blk_far (blk_far (blk_set (blk_set hR.b0 0 _) 1 _) (by simp) _) (by simp) _
  · exact blk_far (blk_set (blk_far (blk_far hR.b1 (by simp) _) (by simp) _) 0 _) (by simp) _
  · exact blk_set (blk_far (blk_far (blk_far hR.b2 (by simp) _) (by simp) _) (by simp) _) 0 _
  · have h1 := Kd.R_mono (Kd.R_bound hO) (ok' := fun k => B ≤ k) (fun k hk => hk.2.1)
    have h2 := Kd.R_far (p := ⟨n + 2, 0, none⟩) (Kd.R_far (p := ⟨n + 1, 0, none⟩) (Kd.R_far (p := ⟨n, 1, none⟩) (Kd.R_far (p := ⟨n, 0, none⟩) h1 (fun k hk => by show k ≠ n; omega) (.int .u8 x0)) (fun k hk => by show k ≠ n; omega) (.slice A9 y.length c9)) (fun k hk => by show k ≠ n + 1; omega) (.int .i64 e)) (fun k hk => by show k ≠ n + 2; omega) (.int .i64 0)
    exact Kd.R_lower (Kd.R_mono h2 (fun _ _ => trivial)) (by omega)
theorem row_one (w : World) (A : Option Addr) (n c : Nat) (y : List Int) (hn : n = y.length) (hl : y.length ≤ c) {W : World} (hW : W = w.alloc (.cells #[.slice A n c] 22)) (hC : Kd.C (Kd.int .u8) W A y.length y) :
    Kd.C (Kd.slice 5 (Kd.int .u8)) W (some ⟨w.heap.size, 0, none⟩) [y].length [y] := by
  subst hn hW
  refine ⟨rfl, by simp, fun _ => ⟨_, rfl, fun j p hj => ?_⟩⟩
  obtain rfl : j = 0 := by
    have := (List.getElem?_eq_some_iff.1 hj).1
    simp at this; omega
  obtain rfl : y = p := by simpa using hj
  refine ⟨[.slice A y.length c], rfl, ⟨A, c, rfl, hl, hC⟩, fun i u hu => ?_⟩
  obtain rfl : i = 0 := by
    have := (List.getElem?_eq_some_iff.1 hu).1
    simp at this; omega
  obtain rfl : _ = u := by simpa using hu
  simp [Addr.add]
set_option maxHeartbeats 4000000 in
set_option maxRecDepth 100000 in
theorem Open_sum (A0 : Option Addr) (c0 : Nat) (l0 : List Int) (w : World) (ad : Addr) (x0 : Int) (A1 : Option Addr) (n1 : Nat) (g1 g2 g3 : Int) (hP : Pre A0 c0 l0 w ad x0 A1 n1 g1 g2 g3) (hl : 0 < l0.length) (hlen : l0.length ≤ 140737488351232) (h0 : ¬ x0 = 0) (h3 : g3 = 0) (h5 : g1 ≤ 1048576) (h10 : 0 ≤ g1) (h11 : 0 ≤ g2) (h12 : g2 ≤ 10) (h6 : ¬ (l0.length : Int) - (1 + g2 + g1) < 4) (n2 : Nat) (s : List Int) (A3 : Option Addr) (n4 c4 : Nat) (S T : ByteArray) (hM : Mid l0 c0 w ad (1 + g2 + g1) n2 s A3 n4 c4 S T) (hne : (S.toList == T.toList) = false) :
    Calls Tryd.prog 18 #[.slice A0 l0.length c0] w (PostO w 0 [] 0 6) := by
  have hmf : ∀ (fn : Fn) (first cap : Array Value) (w : World), (Instr.makeFunc fn first cap).run Tryd.prog w = .ok (.func fn first cap) w := fun _ _ _ _ => rfl
  obtain ⟨rfl, hx, hcut, hcall⟩ := hP
  have HCALL := Aside0.mk hcall
  clear hcall
  have h0b : (x0 != 0) = true := by simpa using h0
  have hl2 : 0 < (l0.length : Int) := by omega
  clear h0
  subst h3
  obtain ⟨hcut2, hsum2, hcut4, hstr4, hstrs⟩ := hM
  have HS2 := Aside0.mk hsum2
  have HS4 := Aside0.mk hstr4
  have HSS := Aside0.mk hstrs
  clear hsum2 hstr4 hstrs
  have h5b : decide (g1 ≤ 1048576) = true := decide_eq_true h5
  have h6b : decide (4 ≤ (l0.length : Int) - (1 + g2 + g1)) = true := decide_eq_true (by omega)
  go_enter_defers Tryd.func18, Tryd.ntmps18
  go_wp2_with (first | (go_at_call 39; (with_reducible refine (check_ok 22 _).mono ?_); rintro e w1 ⟨rfl, hw⟩; obtain ⟨hR, hb⟩ := first_W hw; have HR := Aside0.mk hR; have HB := Aside0.mk hb; have hx1 := pw_cell_below hb hx; clear hR hb hw hx) | (go_at_call 39; (with_reducible refine (check_ok 4 _).mono ?_); rintro e w2 ⟨rfl, rfl⟩) | (go_at_call 40; (with_reducible refine (HCALL.out _ HB.out).mono ?_); rintro e w3 ⟨rfl, ⟨nd, rfl⟩⟩) | (go_at_call 39; (with_reducible refine (check_ok 0 _).mono ?_); rintro e w2 ⟨rfl, rfl⟩) | (go_at_call 39; (with_reducible refine (check_ok 5 _).mono ?_); rintro e w2 ⟨rfl, rfl⟩) | (go_at_call 39; (with_reducible refine (check_ok 3 _).mono ?_); rintro e w2 ⟨rfl, rfl⟩))
  have hw4 : wrap64 (1 + g2 + g1 + 4) = 1 + g2 + g1 + 4 := by unfold wrap64; omega
  have HB0 := Aside0.mk (below_drew (pw_below_drewN HB.out nd))
  have HR0 := Aside0.mk (blk3_drew (HR.out.below (pw_below_drewN (Below.refl _ _) nd)))
  refine start_ (n := 13) (S := fun w' => Below w.heap.size w w') (ds := []) #[false, false, false, false, false, false, false, false, false, false, false, false, false] (by kernel_rfl) rfl rfl HB0.out (fun hHeld => ?_)
  generalize (w1.drewN nd).drew = w4 at HB0 HR0 hHeld ⊢
  refine pure_ (i := 0) (N := some 46) (v := ?_) (a' := ?_) #[true, false, false, false, false, false, false, false, false, false, false, false, false] rfl rfl (by kernel_rfl) (put_panic _ _ (by decide)) (Or.inl ⟨by rfl, ?_⟩) ?_ ?_
  rotate_left
  · intro w'
    go_simp
    with_reducible rfl
  rotate_left
  · simp only [Act.put, List.setIfInBounds_toArray, List.set_cons_zero, List.set_cons_succ, i64_w, i32_w]
    rfl
  refine pure_ (i := 1) (N := some 47) (v := ?_) (a' := ?_) #[true, true, false, false, false, false, false, false, false, false, false, false, false] rfl rfl (by kernel_rfl) (put_panic _ _ (by decide)) (Or.inl ⟨by rfl, ?_⟩) ?_ ?_
  rotate_left
  · intro w'
    go_simp
    with_reducible rfl
  rotate_left
  · simp only [Act.put, List.setIfInBounds_toArray, List.set_cons_zero, List.set_cons_succ, i64_w, i32_w]
    rfl
  refine pure_ (i := 2) (N := some 48) (v := ?_) (a' := ?_) #[true, true, true, false, false, false, false, false, false, false, false, false, false] rfl rfl (by kernel_rfl) (put_panic _ _ (by decide)) (Or.inl ⟨by rfl, ?_⟩) ?_ ?_
  rotate_left
  · intro w'
    go_simp
    with_reducible rfl
  rotate_left
  · simp only [Act.put, List.setIfInBounds_toArray, List.set_cons_zero, List.set_cons_succ, i64_w, i32_w]
    rfl
  refine pure_ (i := 5) (N := some 51) (v := ?_) (a' := ?_) #[true, true, true, false, false, true, false, false, false, false, false, false, false] rfl rfl (by kernel_rfl) (put_panic _ _ (by decide)) (Or.inl ⟨by rfl, ?_⟩) ?_ ?_
  rotate_left
  · intro w'
    go_simp
    with_reducible rfl
  rotate_left
  · simp only [Act.put, List.setIfInBounds_toArray, List.set_cons_zero, List.set_cons_succ, i64_w, i32_w]
    rfl
  refine pure_ (i := 6) (N := some 52) (v := ?_) (a' := ?_) #[true, true, true, false, false, true, true, false, false, false, false, false, false] rfl rfl (by kernel_rfl) (put_panic _ _ (by decide)) (Or.inl ⟨by rfl, ?_⟩) ?_ ?_
  rotate_left
  · intro w'
    go_simp
    with_reducible rfl
  rotate_left
  · simp only [Act.put, List.setIfInBounds_toArray, List.set_cons_zero, List.set_cons_succ, i64_w, i32_w]
    rfl
  refine pure_ (i := 7) (N := some 53) (v := ?_) (a' := ?_) #[true, true, true, false, false, true, true, true, false, false, false, false, false] rfl rfl (by kernel_rfl) (put_panic _ _ (by decide)) (Or.inl ⟨by rfl, ?_⟩) ?_ ?_
  rotate_left
  · intro w'
    go_simp
    with_reducible rfl
  rotate_left
  · simp only [Act.put, List.setIfInBounds_toArray, List.set_cons_zero, List.set_cons_succ, i64_w, i32_w]
    rfl
  refine pure_ (i := 8) (N := some 54) (v := ?_) (a' := ?_) #[true, true, true, false, false, true, true, true, true, false, false, false, false] rfl rfl (by kernel_rfl) (put_panic _ _ (by decide)) (Or.inl ⟨by rfl, ?_⟩) ?_ ?_
  rotate_left
  · intro w'
    go_simp
    with_reducible rfl
  rotate_left
  · simp only [Act.put, List.setIfInBounds_toArray, List.set_cons_zero, List.set_cons_succ, i64_w, i32_w]
    rfl
  refine pure_ (i := 9) (N := some 55) (v := ?_) (a' := ?_) #[true, true, true, false, false, true, true, true, true, true, false, false, false] rfl rfl (by kernel_rfl) (put_panic _ _ (by decide)) (Or.inl ⟨by rfl, ?_⟩) ?_ ?_
  rotate_left
  · intro w'
    go_simp
    with_reducible rfl
  rotate_left
  · simp only [Act.put, List.setIfInBounds_toArray, List.set_cons_zero, List.set_cons_succ, i64_w, i32_w]
    rfl
  refine take_ (i := 10) (N := some 56) (v := ?_) (a' := ?_) #[true, true, true, false, false, true, true, true, true, true, true, false, false] rfl rfl (by kernel_rfl) (put_panic _ _ (by decide)) (Or.inl ⟨by rfl, ?_⟩) hHeld ?_ ?_
  rotate_left
  · rintro w' d0_
    have hcv_ := HS4.out _ d0_
    go_simp
    with_reducible rfl
  rotate_left
  · simp only [Act.put, List.setIfInBounds_toArray, List.set_cons_zero, List.set_cons_succ, i64_w, i32_w]
    rfl
  refine one_ (i := 3) (N := some 49) #[true, true, true, true, false, true, true, true, true, true, true, false, false] rfl rfl (by kernel_rfl) (by decide) (fun K hK => ?_)
  refine goes_ Tryd.func35 (by kernel_rfl) rfl #[.slice (some ad) n2 c0] (by rfl) rfl rfl (by (try simp only [List.map_toArray, List.map_cons, List.map_nil]); first | done | rfl) ?_
  with_reducible refine (HS2.out _ HB0.out).mono ?_
  rintro e w5 ⟨v5, rfl, ho5, hb5⟩
  refine ⟨_, rfl, ?_⟩
  have HB5 := Aside0.mk (below_then HB0.out HB0.out.size hb5)
  have HR5 := Aside0.mk (HR0.out.below hb5)
  have HO5 := Aside0.mk (Kd.R_lower ho5 HB0.out.size)
  clear ho5 hb5 HR0 HB0
  refine hK.out _ _ HB5.out (fun hHeld => ?_)
  clear hK K
  refine widen_ (S' := fun w' => Kd.R (Kd.int .u8) 5 w' w.heap.size (fun _ => True) v5 s ∧ Below w.heap.size w w') (fun _ h_ => h_.2) ⟨HO5.out, hHeld⟩ (fun hHeld => ?_)
  refine norm_ (a' := ?_) ?_ ?_
  rotate_left
  · show Act.put _ (some 49) _ = _
    simp only [Act.put, List.setIfInBounds_toArray, List.set_cons_zero, List.set_cons_succ, i64_w, i32_w]
    rfl
  refine take_ (i := 4) (N := some 50) (v := ?_) (a' := ?_) #[true, true, true, true, true, true, true, true, true, true, true, false, false] rfl rfl (by kernel_rfl) (put_panic _ _ (by decide)) (Or.inl ⟨by rfl, ?_⟩) hHeld ?_ ?_
  rotate_left
  · rintro w' ⟨d1_, d0_⟩
    have hcv_ := HSS.out _ _ _ d1_
    go_simp
    with_reducible rfl
  rotate_left
  · simp only [Act.put, List.setIfInBounds_toArray, List.set_cons_zero, List.set_cons_succ, i64_w, i32_w]
    rfl
  refine pure_ (i := 11) (N := some 57) (v := ?_) (a' := ?_) #[true, true, true, true, true, true, true, true, true, true, true, true, false] rfl rfl (by kernel_rfl) (put_panic _ _ (by decide)) (Or.inl ⟨by rfl, ?_⟩) ?_ ?_
  rotate_left
  · intro w'
    go_simp
    with_reducible rfl
  rotate_left
  · simp only [Act.put, List.setIfInBounds_toArray, List.set_cons_zero, List.set_cons_succ, i64_w, i32_w]
    rfl
  refine one_ (i := 12) (N := some 58) #[true, true, true, true, true, true, true, true, true, true, true, true, true] rfl rfl (by kernel_rfl) (by decide) (fun K hK => ?_)
  refine panics_ Tryd.func39 (by kernel_rfl) rfl #[.bool false, .int .i64 6] (by rfl) rfl rfl (by (try simp only [List.map_toArray, List.map_cons, List.map_nil]); first | done | rfl) ?_
  refine (check_no 6 _).mono ?_
  rintro e w7 ⟨rfl, rfl⟩
  refine ⟨_, rfl, ?_⟩
  exact door_stop _ w w5 6 _ _ _ _ HR5.out HB5.out rfl rfl rfl

set_option maxHeartbeats 4000000 in
set_option maxRecDepth 100000 in
theorem Open_yes (A0 : Option Addr) (c0 : Nat) (l0 : List Int) (w : World) (ad : Addr) (x0 : Int) (A1 : Option Addr) (n1 : Nat) (g1 g2 g3 : Int) (hP : Pre A0 c0 l0 w ad x0 A1 n1 g1 g2 g3) (hl : 0 < l0.length) (hlen : l0.length ≤ 140737488351232) (h0 : ¬ x0 = 0) (h3 : g3 = 0) (h5 : g1 ≤ 1048576) (h10 : 0 ≤ g1) (h11 : 0 ≤ g2) (h12 : g2 ≤ 10) (h6 : ¬ (l0.length : Int) - (1 + g2 + g1) < 4) (n2 : Nat) (s : List Int) (A3 : Option Addr) (n4 c4 : Nat) (S T : ByteArray) (hM : Mid l0 c0 w ad (1 + g2 + g1) n2 s A3 n4 c4 S T) (hne : (S.toList == T.toList) = true) (A5 : Option Addr) (n5 c5 : Nat) (y : List Int) (hcut5 : ∀ W : World, (Instr.slice 22 (.slice (some ad) l0.length c0) (some (.int .i64 (1 + g2))) (some (.int .i64 (1 + g2 + g1))) none).run Tryd.prog W = .ok (.slice A5 n5 c5) W) (hC5 : ∀ W : World, Below w.heap.size w W → Kd.C (Kd.int .u8) W A5 y.length y) (hy5 : n5 = y.length) (hl5 : y.length ≤ c5) (hj5 : frame_joined.f 3 [y] = some y) :
    Calls Tryd.prog 18 #[.slice A0 l0.length c0] w (PostO w x0 y (1 + g2 + g1 + 4) 0) := by
  have hmf : ∀ (fn : Fn) (first cap : Array Value) (w : World), (Instr.makeFunc fn first cap).run Tryd.prog w = .ok (.func fn first cap) w := fun _ _ _ _ => rfl
  obtain ⟨rfl, hx, hcut, hcall⟩ := hP
  have HCALL := Aside0.mk hcall
  clear hcall
  have h0b : (x0 != 0) = true := by simpa using h0
  have hl2 : 0 < (l0.length : Int) := by omega
  clear h0
  subst h3
  obtain ⟨hcut2, hsum2, hcut4, hstr4, hstrs⟩ := hM
  have HS2 := Aside0.mk hsum2
  have HS4 := Aside0.mk hstr4
  have HSS := Aside0.mk hstrs
  clear hsum2 hstr4 hstrs
  have h5b : decide (g1 ≤ 1048576) = true := decide_eq_true h5
  have h6b : decide (4 ≤ (l0.length : Int) - (1 + g2 + g1)) = true := decide_eq_true (by omega)
  have HC5 := Aside0.mk hC5
  clear hC5
  go_enter_defers Tryd.func18, Tryd.ntmps18
  go_wp2_with (first | (go_at_call 39; (with_reducible refine (check_ok 22 _).mono ?_); rintro e w1 ⟨rfl, hw⟩; obtain ⟨hR, hb⟩ := first_W hw; have HR := Aside0.mk hR; have HB := Aside0.mk hb; have hx1 := pw_cell_below hb hx; clear hR hb hw) | (go_at_call 39; (with_reducible refine (check_ok 4 _).mono ?_); rintro e w2 ⟨rfl, rfl⟩) | (go_at_call 40; (with_reducible refine (HCALL.out _ HB.out).mono ?_); rintro e w3 ⟨rfl, ⟨nd, rfl⟩⟩) | (go_at_call 39; (with_reducible refine (check_ok 0 _).mono ?_); rintro e w2 ⟨rfl, rfl⟩) | (go_at_call 39; (with_reducible refine (check_ok 5 _).mono ?_); rintro e w2 ⟨rfl, rfl⟩) | (go_at_call 39; (with_reducible refine (check_ok 3 _).mono ?_); rintro e w2 ⟨rfl, rfl⟩))
  have hw4 : wrap64 (1 + g2 + g1 + 4) = 1 + g2 + g1 + 4 := by unfold wrap64; omega
  have HB0 := Aside0.mk (below_drew (pw_below_drewN HB.out nd))
  have HR0 := Aside0.mk (blk3_drew (HR.out.below (pw_below_drewN (Below.refl _ _) nd)))
  refine start_ (n := 13) (S := fun w' => Below w.heap.size w w') (ds := []) #[false, false, false, false, false, false, false, false, false, false, false, false, false] (by kernel_rfl) rfl rfl HB0.out (fun hHeld => ?_)
  generalize (w1.drewN nd).drew = w4 at HB0 HR0 hHeld ⊢
  refine pure_ (i := 0) (N := some 46) (v := ?_) (a' := ?_) #[true, false, false, false, false, false, false, false, false, false, false, false, false] rfl rfl (by kernel_rfl) (put_panic _ _ (by decide)) (Or.inl ⟨by rfl, ?_⟩) ?_ ?_
  rotate_left
  · intro w'
    go_simp
    with_reducible rfl
  rotate_left
  · simp only [Act.put, List.setIfInBounds_toArray, List.set_cons_zero, List.set_cons_succ, i64_w, i32_w]
    rfl
  refine pure_ (i := 1) (N := some 47) (v := ?_) (a' := ?_) #[true, true, false, false, false, false, false, false, false, false, false, false, false] rfl rfl (by kernel_rfl) (put_panic _ _ (by decide)) (Or.inl ⟨by rfl, ?_⟩) ?_ ?_
  rotate_left
  · intro w'
    go_simp
    with_reducible rfl
  rotate_left
  · simp only [Act.put, List.setIfInBounds_toArray, List.set_cons_zero, List.set_cons_succ, i64_w, i32_w]
    rfl
  refine pure_ (i := 2) (N := some 48) (v := ?_) (a' := ?_) #[true, true, true, false, false, false, false, false, false, false, false, false, false] rfl rfl (by kernel_rfl) (put_panic _ _ (by decide)) (Or.inl ⟨by rfl, ?_⟩) ?_ ?_
  rotate_left
  · intro w'
    go_simp
    with_reducible rfl
  rotate_left
  · simp only [Act.put, List.setIfInBounds_toArray, List.set_cons_zero, List.set_cons_succ, i64_w, i32_w]
    rfl
  refine pure_ (i := 5) (N := some 51) (v := ?_) (a' := ?_) #[true, true, true, false, false, true, false, false, false, false, false, false, false] rfl rfl (by kernel_rfl) (put_panic _ _ (by decide)) (Or.inl ⟨by rfl, ?_⟩) ?_ ?_
  rotate_left
  · intro w'
    go_simp
    with_reducible rfl
  rotate_left
  · simp only [Act.put, List.setIfInBounds_toArray, List.set_cons_zero, List.set_cons_succ, i64_w, i32_w]
    rfl
  refine pure_ (i := 6) (N := some 52) (v := ?_) (a' := ?_) #[true, true, true, false, false, true, true, false, false, false, false, false, false] rfl rfl (by kernel_rfl) (put_panic _ _ (by decide)) (Or.inl ⟨by rfl, ?_⟩) ?_ ?_
  rotate_left
  · intro w'
    go_simp
    with_reducible rfl
  rotate_left
  · simp only [Act.put, List.setIfInBounds_toArray, List.set_cons_zero, List.set_cons_succ, i64_w, i32_w]
    rfl
  refine pure_ (i := 7) (N := some 53) (v := ?_) (a' := ?_) #[true, true, true, false, false, true, true, true, false, false, false, false, false] rfl rfl (by kernel_rfl) (put_panic _ _ (by decide)) (Or.inl ⟨by rfl, ?_⟩) ?_ ?_
  rotate_left
  · intro w'
    go_simp
    with_reducible rfl
  rotate_left
  · simp only [Act.put, List.setIfInBounds_toArray, List.set_cons_zero, List.set_cons_succ, i64_w, i32_w]
    rfl
  refine pure_ (i := 8) (N := some 54) (v := ?_) (a' := ?_) #[true, true, true, false, false, true, true, true, true, false, false, false, false] rfl rfl (by kernel_rfl) (put_panic _ _ (by decide)) (Or.inl ⟨by rfl, ?_⟩) ?_ ?_
  rotate_left
  · intro w'
    go_simp
    with_reducible rfl
  rotate_left
  · simp only [Act.put, List.setIfInBounds_toArray, List.set_cons_zero, List.set_cons_succ, i64_w, i32_w]
    rfl
  refine pure_ (i := 9) (N := some 55) (v := ?_) (a' := ?_) #[true, true, true, false, false, true, true, true, true, true, false, false, false] rfl rfl (by kernel_rfl) (put_panic _ _ (by decide)) (Or.inl ⟨by rfl, ?_⟩) ?_ ?_
  rotate_left
  · intro w'
    go_simp
    with_reducible rfl
  rotate_left
  · simp only [Act.put, List.setIfInBounds_toArray, List.set_cons_zero, List.set_cons_succ, i64_w, i32_w]
    rfl
  refine take_ (i := 10) (N := some 56) (v := ?_) (a' := ?_) #[true, true, true, false, false, true, true, true, true, true, true, false, false] rfl rfl (by kernel_rfl) (put_panic _ _ (by decide)) (Or.inl ⟨by rfl, ?_⟩) hHeld ?_ ?_
  rotate_left
  · rintro w' d0_
    have hcv_ := HS4.out _ d0_
    go_simp
    with_reducible rfl
  rotate_left
  · simp only [Act.put, List.setIfInBounds_toArray, List.set_cons_zero, List.set_cons_succ, i64_w, i32_w]
    rfl
  refine one_ (i := 3) (N := some 49) #[true, true, true, true, false, true, true, true, true, true, true, false, false] rfl rfl (by kernel_rfl) (by decide) (fun K hK => ?_)
  refine goes_ Tryd.func35 (by kernel_rfl) rfl #[.slice (some ad) n2 c0] (by rfl) rfl rfl (by (try simp only [List.map_toArray, List.map_cons, List.map_nil]); first | done | rfl) ?_
  with_reducible refine (HS2.out _ HB0.out).mono ?_
  rintro e w5 ⟨v5, rfl, ho5, hb5⟩
  refine ⟨_, rfl, ?_⟩
  have HB5 := Aside0.mk (below_then HB0.out HB0.out.size hb5)
  have HR5 := Aside0.mk (HR0.out.below hb5)
  have HO5 := Aside0.mk (Kd.R_lower ho5 HB0.out.size)
  clear ho5 hb5 HR0 HB0
  refine hK.out _ _ HB5.out (fun hHeld => ?_)
  clear hK K
  refine widen_ (S' := fun w' => Kd.R (Kd.int .u8) 5 w' w.heap.size (fun _ => True) v5 s ∧ Below w.heap.size w w') (fun _ h_ => h_.2) ⟨HO5.out, hHeld⟩ (fun hHeld => ?_)
  refine norm_ (a' := ?_) ?_ ?_
  rotate_left
  · show Act.put _ (some 49) _ = _
    simp only [Act.put, List.setIfInBounds_toArray, List.set_cons_zero, List.set_cons_succ, i64_w, i32_w]
    rfl
  refine take_ (i := 4) (N := some 50) (v := ?_) (a' := ?_) #[true, true, true, true, true, true, true, true, true, true, true, false, false] rfl rfl (by kernel_rfl) (put_panic _ _ (by decide)) (Or.inl ⟨by rfl, ?_⟩) hHeld ?_ ?_
  rotate_left
  · rintro w' ⟨d1_, d0_⟩
    have hcv_ := HSS.out _ _ _ d1_
    go_simp
    with_reducible rfl
  rotate_left
  · simp only [Act.put, List.setIfInBounds_toArray, List.set_cons_zero, List.set_cons_succ, i64_w, i32_w]
    rfl
  refine pure_ (i := 11) (N := some 57) (v := ?_) (a' := ?_) #[true, true, true, true, true, true, true, true, true, true, true, true, false] rfl rfl (by kernel_rfl) (put_panic _ _ (by decide)) (Or.inl ⟨by rfl, ?_⟩) ?_ ?_
  rotate_left
  · intro w'
    go_simp
    with_reducible rfl
  rotate_left
  · simp only [Act.put, List.setIfInBounds_toArray, List.set_cons_zero, List.set_cons_succ, i64_w, i32_w]
    rfl
  refine one_ (i := 12) (N := some 58) #[true, true, true, true, true, true, true, true, true, true, true, true, true] rfl rfl (by kernel_rfl) (by decide) (fun K hK => ?_)
  refine goes_ Tryd.func39 (by kernel_rfl) rfl #[.bool true, .int .i64 6] (by rfl) rfl rfl (by (try simp only [List.map_toArray, List.map_cons, List.map_nil]); first | done | rfl) ?_
  refine (check_ok 6 _).mono ?_
  rintro e w7 ⟨rfl, rfl⟩
  refine ⟨_, rfl, ?_⟩
  refine hK.out _ _ hHeld (fun hHeld => ?_)
  clear hK K
  refine norm_ (a' := ?_) ?_ ?_
  rotate_left
  · show Act.put _ (some 58) _ = _
    simp only [Act.put, List.setIfInBounds_toArray, List.set_cons_zero, List.set_cons_succ, i64_w, i32_w]
    rfl
  refine done_ (by kernel_rfl) ?_
  go_wp2
  have HB6 := Aside0.mk (below_drew HB5.out)
  have HR6 := Aside0.mk (blk3_drew HR5.out)
  clear HO5 hHeld HB5 HR5
  refine start_ (n := 15) (S := fun w' => Below w.heap.size w w') (ds := []) #[false, false, false, false, false, false, false, false, false, false, false, false, false, false, false] (by kernel_rfl) rfl rfl HB6.out (fun hHeld => ?_)
  generalize w5.drew = w6 at HB6 HR6 hHeld ⊢
  refine pure_ (i := 0) (N := some 59) (v := ?_) (a' := ?_) #[true, false, false, false, false, false, false, false, false, false, false, false, false, false, false] rfl rfl (by kernel_rfl) (put_panic _ _ (by decide)) (Or.inl ⟨by rfl, ?_⟩) ?_ ?_
  rotate_left
  · intro w'
    go_simp
    with_reducible rfl
  rotate_left
  · simp only [Act.put, List.setIfInBounds_toArray, List.set_cons_zero, List.set_cons_succ, i64_w, i32_w]
    rfl
  refine pure_ (i := 1) (N := some 60) (v := ?_) (a' := ?_) #[true, true, false, false, false, false, false, false, false, false, false, false, false, false, false] rfl rfl (by kernel_rfl) (put_panic _ _ (by decide)) (Or.inl ⟨by rfl, ?_⟩) ?_ ?_
  rotate_left
  · intro w'
    go_simp
    with_reducible rfl
  rotate_left
  · simp only [Act.put, List.setIfInBounds_toArray, List.set_cons_zero, List.set_cons_succ, i64_w, i32_w]
    rfl
  refine pure_ (i := 3) (N := some 62) (v := ?_) (a' := ?_) #[true, true, false, true, false, false, false, false, false, false, false, false, false, false, false] rfl rfl (by kernel_rfl) (put_panic _ _ (by decide)) (Or.inl ⟨by rfl, ?_⟩) ?_ ?_
  rotate_left
  · intro w'
    go_simp
    with_reducible rfl
  rotate_left
  · simp only [Act.put, List.setIfInBounds_toArray, List.set_cons_zero, List.set_cons_succ, i64_w, i32_w]
    rfl
  refine pure_ (i := 4) (N := some 63) (v := ?_) (a' := ?_) #[true, true, false, true, true, false, false, false, false, false, false, false, false, false, false] rfl rfl (by kernel_rfl) (put_panic _ _ (by decide)) (Or.inl ⟨by rfl, ?_⟩) ?_ ?_
  rotate_left
  · intro w'
    go_simp
    with_reducible rfl
  rotate_left
  · simp only [Act.put, List.setIfInBounds_toArray, List.set_cons_zero, List.set_cons_succ, i64_w, i32_w]
    rfl
  refine pure_ (i := 5) (N := some 64) (v := ?_) (a' := ?_) #[true, true, false, true, true, true, false, false, false, false, false, false, false, false, false] rfl rfl (by kernel_rfl) (put_panic _ _ (by decide)) (Or.inl ⟨by rfl, ?_⟩) ?_ ?_
  rotate_left
  · intro w'
    go_simp
    with_reducible rfl
  rotate_left
  · simp only [Act.put, List.setIfInBounds_toArray, List.set_cons_zero, List.set_cons_succ, i64_w, i32_w]
    rfl
  refine pure_ (i := 6) (N := some 65) (v := ?_) (a' := ?_) #[true, true, false, true, true, true, true, false, false, false, false, false, false, false, false] rfl rfl (by kernel_rfl) (put_panic _ _ (by decide)) (Or.inl ⟨by rfl, ?_⟩) ?_ ?_
  rotate_left
  · intro w'
    go_simp
    with_reducible rfl
  rotate_left
  · simp only [Act.put, List.setIfInBounds_toArray, List.set_cons_zero, List.set_cons_succ, i64_w, i32_w]
    rfl
  refine pure_ (i := 10) (N := some 69) (v := ?_) (a' := ?_) #[true, true, false, true, true, true, true, false, false, false, true, false, false, false, false] rfl rfl (by kernel_rfl) (put_panic _ _ (by decide)) (Or.inl ⟨by rfl, ?_⟩) ?_ ?_
  rotate_left
  · intro w'
    go_simp
    with_reducible rfl
  rotate_left
  · simp only [Act.put, List.setIfInBounds_toArray, List.set_cons_zero, List.set_cons_succ, i64_w, i32_w]
    rfl
  refine pure_ (i := 11) (N := some 70) (v := ?_) (a' := ?_) #[true, true, false, true, true, true, true, false, false, false, true, true, false, false, false] rfl rfl (by kernel_rfl) (put_panic _ _ (by decide)) (Or.inl ⟨by rfl, ?_⟩) ?_ ?_
  rotate_left
  · intro w'
    go_simp
    with_reducible rfl
  rotate_left
  · simp only [Act.put, List.setIfInBounds_toArray, List.set_cons_zero, List.set_cons_succ, i64_w, i32_w]
    rfl
  refine take_ (i := 2) (N := some 61) (v := ?_) (a' := ?_) #[true, true, true, true, true, true, true, false, false, false, true, true, false, false, false] rfl rfl (by kernel_rfl) (put_panic _ _ (by decide)) (Or.inl ⟨by rfl, ?_⟩) hHeld ?_ ?_
  rotate_left
  · rintro w' d0_
    have hcv_ := pw_cell_below d0_ hx
    go_simp
    with_reducible rfl
  rotate_left
  · simp only [Act.put, List.setIfInBounds_toArray, List.set_cons_zero, List.set_cons_succ, i64_w, i32_w]
    rfl
  refine one_ (i := 7) (N := some 66) #[true, true, true, true, true, true, true, true, false, false, true, true, false, false, false] rfl rfl (by kernel_rfl) (by decide) (fun K hK => ?_)
  refine value_ (N := some 66) (by rfl) rfl (w1 := w6.alloc (.cells #[.slice A5 n5 c5] 22)) (v := .slice (some ⟨w6.heap.size, 0, none⟩) 1 1) (by go_simp; try rfl) ?_
  have HB7 := Aside0.mk (below_alloc HB6.out (.cells #[.slice A5 n5 c5] 22))
  have HR7 := Aside0.mk (HR6.out.below (below_alloc (Below.refl _ _) (.cells #[.slice A5 n5 c5] 22)))
  have HP7 := Aside0.mk (row_one w6 A5 n5 c5 y hy5 hl5 rfl (HC5.out _ HB7.out))
  generalize (w6.alloc (.cells #[.slice A5 n5 c5] 22)) = w8 at HB7 HR7 HP7 ⊢
  clear HB6 HR6 hHeld
  have HL8 := Aside0.mk (show w.heap.size + 2 < w8.heap.size from blk_lt HR7.out.b2)
  refine hK.out _ _ HB7.out (fun hHeld => ?_)
  clear hK K
  refine norm_ (a' := ?_) ?_ ?_
  rotate_left
  · show Act.put _ (some 66) _ = _
    simp only [Act.put, List.setIfInBounds_toArray, List.set_cons_zero, List.set_cons_succ, i64_w, i32_w]
    rfl
  refine one_ (i := 8) (N := some 67) #[true, true, true, true, true, true, true, true, true, false, true, true, false, false, false] rfl rfl (by kernel_rfl) (by decide) (fun K hK => ?_)
  refine goes_ Tryd.func33 (by kernel_rfl) rfl #[.slice (some ⟨w6.heap.size, 0, none⟩) 1 1] (by rfl) rfl rfl (by (try simp only [List.map_toArray, List.map_cons, List.map_nil]); first | done | rfl) ?_
  refine (frame_joined.calls 3 (some ⟨w6.heap.size, 0, none⟩) 1 [y] y w8 HP7.out (Nat.le_refl _) hj5).mono ?_
  rintro e w9 ⟨v9, rfl, ho9, hb9⟩
  refine ⟨_, rfl, ?_⟩
  have HB9 := Aside0.mk (below_then HB7.out HB7.out.size hb9)
  have HR9 := Aside0.mk (HR7.out.below hb9)
  have HO9 := Aside0.mk (Kd.R_lower ho9 (Nat.le_refl _))
  have HS9 := Aside0.mk hb9.size
  have HZ9 := Aside0.mk HB7.out.size
  clear ho9 hb9 HR7 HB7 hHeld
  refine hK.out _ _ HB9.out (fun hHeld => ?_)
  clear hK K
  obtain ⟨A9, c9, rfl⟩ := Kd.R_slice HO9.out
  refine norm_ (a' := ?_) ?_ ?_
  rotate_left
  · show Act.put _ (some 67) _ = _
    simp only [Act.put, List.setIfInBounds_toArray, List.set_cons_zero, List.set_cons_succ, i64_w, i32_w]
    rfl
  refine pure_ (i := 9) (N := some 68) (v := ?_) (a' := ?_) #[true, true, true, true, true, true, true, true, true, true, true, true, false, false, false] rfl rfl (by kernel_rfl) (put_panic _ _ (by decide)) (Or.inl ⟨by rfl, ?_⟩) ?_ ?_
  rotate_left
  · intro w'
    go_simp
    with_reducible rfl
  rotate_left
  · simp only [Act.put, List.setIfInBounds_toArray, List.set_cons_zero, List.set_cons_succ, i64_w, i32_w]
    rfl
  refine one_ (i := 12) (N := none) #[true, true, true, true, true, true, true, true, true, true, true, true, true, false, false] rfl rfl (by kernel_rfl) (by decide) (fun K hK => ?_)
  have h20_9 := cell_of_blk (i := 0) (v := .int .u8 0) HR9.out.b0 rfl
  have h21_9 := cell_of_blk (i := 1) (v := .slice none 0 0) HR9.out.b0 rfl
  have h3_9 := cell_of_blk (i := 0) (v := .int .i64 0) HR9.out.b1 rfl
  have h4_9 := cell_of_blk (i := 0) (v := .int .i64 0) HR9.out.b2 rfl
  have z20_9 := blk_frozen HR9.out.b0 0
  have z21_9 := blk_frozen HR9.out.b0 1
  have z3_9 := blk_frozen HR9.out.b1 0
  have z4_9 := blk_frozen HR9.out.b2 0
  have h4b_9 : w9.cell? ⟨w.heap.size + 1 + 1, 0, none⟩ = some (.int .i64 0) := h4_9
  have z4b_9 : w9.frozen? ⟨w.heap.size + 1 + 1, 0, none⟩ = false := z4_9
  refine skip_ (by rfl) rfl (w1 := (w9.setCell ⟨w.heap.size, 0, none⟩ (.int .u8 x0)).setCell ⟨w.heap.size, 1, none⟩ (.slice A9 y.length c9)) (by go_simp; try rfl) ?_
  refine hK.out _ _ ((HB9.out.setCell (p := ⟨w.heap.size, 0, none⟩) (Nat.le_refl _) _).setCell (p := ⟨w.heap.size, 1, none⟩) (Nat.le_refl _) _) (fun hHeld => ?_)
  clear hK K
  refine one_ (i := 13) (N := none) #[true, true, true, true, true, true, true, true, true, true, true, true, true, true, false] rfl rfl (by kernel_rfl) (by decide) (fun K hK => ?_)
  refine skip_ (by rfl) rfl (w1 := ((w9.setCell ⟨w.heap.size, 0, none⟩ (.int .u8 x0)).setCell ⟨w.heap.size, 1, none⟩ (.slice A9 y.length c9)).setCell ⟨w.heap.size + 1, 0, none⟩ (.int .i64 (1 + g2 + g1 + 4))) (by go_simp; try rfl) ?_
  refine hK.out _ _ (hHeld.setCell (p := ⟨w.heap.size + 1, 0, none⟩) (Nat.le_succ _) _) (fun hHeld => ?_)
  clear hK K
  refine one_ (i := 14) (N := none) #[true, true, true, true, true, true, true, true, true, true, true, true, true, true, true] rfl rfl (by kernel_rfl) (by decide) (fun K hK => ?_)
  refine skip_ (by rfl) rfl (w1 := (((w9.setCell ⟨w.heap.size, 0, none⟩ (.int .u8 x0)).setCell ⟨w.heap.size, 1, none⟩ (.slice A9 y.length c9)).setCell ⟨w.heap.size + 1, 0, none⟩ (.int .i64 (1 + g2 + g1 + 4))).setCell ⟨w.heap.size + 1 + 1, 0, none⟩ (.int .i64 0)) (by go_simp; try rfl) ?_
  refine hK.out _ _ (hHeld.setCell (p := ⟨w.heap.size + 1 + 1, 0, none⟩) (show w.heap.size ≤ w.heap.size + 1 + 1 by omega) _) (fun hHeld => ?_)
  clear hK K
  refine done_ (by kernel_rfl) ?_
  go_wp2
  obtain ⟨q1, q2⟩ := stored HR9.out HO9.out HL8.out x0 (1 + g2 + g1 + 4)
  exact door_ret _ w _ x0 _ y _ 0 q1 q2 hHeld rfl rfl rfl

end Go.Proofs.YtonpiacnljcohaaDoor.Fr
namespace Go.Proofs.YtonpiacnljcohaaDoor.PA
open Go Go.RowKit Go.Proofs.YtonpiacnljcohaaDoorW.PrintWords Go.Proofs.YtonpiacnljcohaaDoorW.PrintLast Go.Proofs.YtonpiacnljcohaaDoor.Fr
def frame_Open.f (b : List Int) : Option (Int × List Int × Int × Int) :=
  if b.length ≤ 140737488351232 then
    if b.length = 0 then some (0, [], 0, 22)
    else if rd b 0 = 0 then some (0, [], 0, 4)
    else (leb_GetUint.f 20 (b.drop 1)).bind fun g =>
      if g.2.2 = 0 then
        if 1048576 < g.1 then some (0, [], 0, 5)
        else if 0 ≤ g.1 ∧ 0 ≤ g.2.1 ∧ g.2.1 ≤ 10 then
          if (b.length : Int) - (1 + g.2.1 + g.1) < 4 then some (0, [], 0, 3)
          else (frame_sum.f (b.take (1 + g.2.1 + g.1).toNat)).bind fun s =>
            if (strOfNums s).toList = (strOfNums ((b.take (1 + g.2.1 + g.1 + 4).toNat).drop (1 + g.2.1 + g.1).toNat)).toList then some (rd b 0, (b.take (1 + g.2.1 + g.1).toNat).drop (1 + g.2.1).toNat, 1 + g.2.1 + g.1 + 4, 0)
            else some (0, [], 0, 6)
        else none
      else some (0, [], 0, g.2.2)
  else none
theorem joined_one (y : List Int) (h : y.length < 140737488355328) : frame_joined.f 3 [y] = some y := by
  unfold frame_joined.f
  rw [frame_joined.l0, if_pos (by simp), if_pos (by omega), if_pos (by simp), if_pos (by simpa [rd_L1] using h), frame_joined.l0, if_neg (by simp [wrap64])]
  simp [rd_L1]
theorem frame_Open.calls (A0 : Option Addr) (c0 : Nat) (l0 : List Int) (r1 : Int) (r2 : List Int) (r3 r4 : Int) (w : World) (hr0 : Kd.C (Kd.int .u8) w A0 l0.length l0) (hc0 : l0.length ≤ c0) (hG : Gl w) (h : frame_Open.f l0 = some (r1, r2, r3, r4)) :
    Calls Tryd.prog 18 #[.slice A0 l0.length c0] w fun e w' => ∃ v1_ : Value, e = .returned (.tuple #[.agg #[.int .u8 r1, v1_], .int .i64 r3, .int .i64 r4]) ∧ Kd.R (Kd.int .u8) 5 w' w.heap.size (fun _ => True) v1_ r2 ∧ Below w.heap.size w w' := by
  change Calls Tryd.prog 18 #[.slice A0 l0.length c0] w (PostO w r1 r2 r3 r4)
  unfold frame_Open.f at h
  split at h
  case isFalse => cases h
  rename_i hlen
  split at h
  · rename_i h0
    obtain ⟨rfl, rfl, rfl, rfl⟩ := by simpa using h
    rw [h0]
    exact Open_none A0 c0 w
  rename_i h0
  have hl : 0 < l0.length := by omega
  split at h
  · rename_i hz
    obtain ⟨rfl, rfl, rfl, rfl⟩ := by simpa using h
    exact Open_zero A0 c0 l0 w hr0 hc0 hl hz
  rename_i hz
  obtain ⟨⟨g1, g2, g3⟩, hg, h⟩ := Option.bind_eq_some_iff.1 h
  obtain ⟨ad, A1, n1, hP⟩ := pre_of A0 c0 l0 w hr0 hc0 hl g1 g2 g3 hg
  simp only at h
  split at h
  case isFalse h3 =>
    obtain ⟨rfl, rfl, rfl, rfl⟩ := by simpa using h
    exact Open_no A0 c0 l0 w ad _ A1 n1 g1 g2 g3 hP hl hlen hz h3
  rename_i h3
  split at h
  · rename_i h5
    obtain ⟨rfl, rfl, rfl, rfl⟩ := by simpa using h
    exact Open_long A0 c0 l0 w ad _ A1 n1 g1 g2 g3 hP hl hlen hz h3 h5
  rename_i h5
  split at h
  case isFalse => cases h
  rename_i hrg
  obtain ⟨h10, h11, h12⟩ := hrg
  split at h
  · rename_i h6
    obtain ⟨rfl, rfl, rfl, rfl⟩ := by simpa using h
    exact Open_cut A0 c0 l0 w ad _ A1 n1 g1 g2 g3 hP hl hlen hz h3 (by omega) h10 h11 h12 h6
  rename_i h6
  obtain ⟨s, hs, h⟩ := Option.bind_eq_some_iff.1 h
  have hA := hP.ha
  subst hA
  obtain ⟨n2, A3, n4, c4, hM⟩ := mid_of l0 c0 w ad (1 + g2 + g1) s hr0 hc0 (by omega) (by omega) hG hs
  split at h
  · rename_i he
    simp only [Option.some.injEq, Prod.mk.injEq] at h
    obtain ⟨rfl, rfl, rfl, rfl⟩ := h
    obtain ⟨i0, hi0, _, hsz, _⟩ := info_parts info5
    obtain ⟨A5, hcut5, hA5, hC5⟩ := print_mid_of (P := Tryd.prog) (Value.int .u8) 0 22 5 .i64 .i64 Tryd.underlying22 hi0 hsz (some ad) c0 l0 (1 + g2) (1 + g2 + g1) (by omega) (by omega) (by omega) hc0
    have HC5 := Kd.C_of_reads (h1 := fun _ => rfl) (hA5 _ (Kd.reads_of_C hr0))
    exact Open_yes (some ad) c0 l0 w ad _ A1 n1 g1 g2 g3 hP hl hlen hz h3 (by omega) h10 h11 h12 h6 n2 s A3 n4 c4 _ _ hM (beq_iff_eq.2 he) A5 _ _ _ hcut5 (fun W hb => Kd.C_below HC5 hb) rfl hC5 (joined_one _ (by rw [List.length_drop, List.length_take]; omega))
  · rename_i he
    obtain ⟨rfl, rfl, rfl, rfl⟩ := by simpa using h
    exact Open_sum (some ad) c0 l0 w ad _ A1 n1 g1 g2 g3 hP hl hlen hz h3 (by omega) h10 h11 h12 h6 n2 s A3 n4 c4 _ _ hM (beq_eq_false_iff_ne.2 he)
end Go.Proofs.YtonpiacnljcohaaDoor.PA
