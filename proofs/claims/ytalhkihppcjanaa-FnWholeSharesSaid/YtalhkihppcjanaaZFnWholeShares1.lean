/- Plain functions for the Go functions of this seat, and proofs that each call answers as its plain function does; made by this session's program over the kit's printer. -/
import Derived.Test.YtalhkihppcjanaaX0
import Derived.Test.YtalhkihppcjanaaZFnWholeShares0
namespace Go.Proofs.Ytalhkihppcjanaa.X
open Go.RowKit Go.Proofs.YtalhkihppcjanaaV.PrintWords Go.Proofs.YtalhkihppcjanaaV.PrintLast Go.Proofs.YtalhkihppcjanaaV.PrintMore
attribute [local go_sem] max2_int min2_int max_two min_two max_three min_three max_four min_four   -- for this text's walks alone
set_option linter.unusedVariables false
set_option linter.unusedSimpArgs false

section
/-! ### impl_LocksOk: function 27 -/
abbrev LA := S61
def lk_ok (a : LA) : Bool := decide (0 ≤ a.f0 ∧ a.f0 ≤ 3) && (decide (0 ≤ a.f1 ∧ a.f1 ≤ 4) && decide (1 ≤ a.f2 ∧ a.f2 ≤ 2))
def lk_agn (a b : LA) : Bool := (a.f1 == b.f1) && (!(a.f0 == b.f0) && ((a.f2 == 2) || (b.f2 == 2)))
def lk_cov (a b : LA) : Bool := (a.f1 == b.f1) && ((a.f0 == b.f0) && decide (a.f2 ≥ b.f2))
def lk_same (a b : LA) : Bool := (b.f0 == a.f0) && (b.f1 == a.f1)
def lk_dup (a b : LA) : Bool := lk_same a b || lk_agn b a
def lk_who (a b : LA) : Bool := b.f0 == a.f0
def lk_ahead (a b : LA) : Bool := (b.f1 == a.f1) && !(b.f0 == a.f0)
def lk_free (held : List LA) (a : LA) (ah : List LA) : Bool := !(held.any (lk_agn a)) && !(ah.any (lk_ahead a))
def lk_heldAt (held : List LA) (i : Nat) : Bool := lk_ok (held.getD i z61) && !((held.take i).any (lk_dup (held.getD i z61)))
def lk_queueAt (held queue : List LA) (i : Nat) : Bool := lk_ok (queue.getD i z61) && (!((queue.take i).any (lk_who (queue.getD i z61))) && (!(held.any (fun b => lk_cov b (queue.getD i z61))) && !(lk_free held (queue.getD i z61) (queue.take i))))
def lk_all (held queue : List LA) : Bool := (List.range held.length).all (lk_heldAt held) && (List.range queue.length).all (lk_queueAt held queue)
set_option maxHeartbeats 8000000 in
set_option maxRecDepth 100000 in
theorem lk_against (a b : LA) (w : World) : Calls Try.prog 64 #[.agg #[.int .i64 a.f0, .int .i64 a.f1, .int .i64 a.f2], .agg #[.int .i64 b.f0, .int .i64 b.f1, .int .i64 b.f2]] w fun e w' => e = .returned (.bool (lk_agn a b)) ∧ Below w.heap.size w w' := by
  have hu61 := Try.underlying61
  by_cases t0 : a.f1 = b.f1
  · have q0 : (a.f1 == b.f1) = true := by simpa using t0
    have p0 : (a.f1 != b.f1) = false := by simpa using t0
    have Q0 := Aside0.mk q0
    clear t0
    by_cases t1 : a.f0 = b.f0
    · have q1 : (a.f0 == b.f0) = true := by simpa using t1
      have p1 : (a.f0 != b.f0) = false := by simpa using t1
      have Q1 := Aside0.mk q1
      clear t1
      have HV : Aside0 (lk_agn a b = false) := ⟨by unfold lk_agn; rw [Q0.out, Q1.out]; rfl⟩
      go_enter Try.func64, Try.ntmps64
      go_wp2_with (first | ((with_reducible refine gate_dst (N := 2) rfl ?_); refine box_event ?hg (N := 2) ?hd (cs := #[.int .i64 a.f0, .int .i64 a.f1, .int .i64 a.f2]) (t := 61) ?hr ?_; (case hd => rfl); (case hg => rfl); (case hr => first | (go_simp; done) | (go_simp; rfl)); intro gb hg w1 hbox hb1; have hcgb_0 : w1.cell? ⟨gb, 0, none⟩ = some (.int .i64 a.f0) := (blk_cell hbox 0).trans rfl; have hcgb_1 : w1.cell? ⟨gb, 1, none⟩ = some (.int .i64 a.f1) := (blk_cell hbox 1).trans rfl; have hcgb_2 : w1.cell? ⟨gb, 2, none⟩ = some (.int .i64 a.f2) := (blk_cell hbox 2).trans rfl; have HBw1 := Aside0.mk hb1; clear hbox hb1 hg) | ((with_reducible refine gate_dst (N := 3) rfl ?_); refine box_event ?hg (N := 3) ?hd (cs := #[.int .i64 b.f0, .int .i64 b.f1, .int .i64 b.f2]) (t := 61) ?hr ?_; (case hd => rfl); (case hg => rfl); (case hr => first | (go_simp; done) | (go_simp; rfl)); intro gc hg w2 hbox hb1; have hcgc_0 : w2.cell? ⟨gc, 0, none⟩ = some (.int .i64 b.f0) := (blk_cell hbox 0).trans rfl; have hcgc_1 : w2.cell? ⟨gc, 1, none⟩ = some (.int .i64 b.f1) := (blk_cell hbox 1).trans rfl; have hcgc_2 : w2.cell? ⟨gc, 2, none⟩ = some (.int .i64 b.f2) := (blk_cell hbox 2).trans rfl; have HBw2 := Aside0.mk hb1; replace hcgb_0 := pw_cell_below HBw2.out hcgb_0; replace hcgb_1 := pw_cell_below HBw2.out hcgb_1; replace hcgb_2 := pw_cell_below HBw2.out hcgb_2; clear hbox hb1 hg))
      go_ret
      exact ⟨by rw [HV.out]; rfl, below_step HBw1.out HBw2.out⟩
    · have q1 : (a.f0 == b.f0) = false := by simpa using t1
      have p1 : (a.f0 != b.f0) = true := by simpa using t1
      have Q1 := Aside0.mk q1
      clear t1
      by_cases t2 : a.f2 = 2
      · have q2 : (a.f2 == 2) = true := by simpa using t2
        have p2 : (a.f2 != 2) = false := by simpa using t2
        have Q2 := Aside0.mk q2
        clear t2
        have HV : Aside0 (lk_agn a b = true) := ⟨by unfold lk_agn; rw [Q0.out, Q1.out, Q2.out]; rfl⟩
        go_enter Try.func64, Try.ntmps64
        go_wp2_with (first | ((with_reducible refine gate_dst (N := 2) rfl ?_); refine box_event ?hg (N := 2) ?hd (cs := #[.int .i64 a.f0, .int .i64 a.f1, .int .i64 a.f2]) (t := 61) ?hr ?_; (case hd => rfl); (case hg => rfl); (case hr => first | (go_simp; done) | (go_simp; rfl)); intro gb hg w1 hbox hb1; have hcgb_0 : w1.cell? ⟨gb, 0, none⟩ = some (.int .i64 a.f0) := (blk_cell hbox 0).trans rfl; have hcgb_1 : w1.cell? ⟨gb, 1, none⟩ = some (.int .i64 a.f1) := (blk_cell hbox 1).trans rfl; have hcgb_2 : w1.cell? ⟨gb, 2, none⟩ = some (.int .i64 a.f2) := (blk_cell hbox 2).trans rfl; have HBw1 := Aside0.mk hb1; clear hbox hb1 hg) | ((with_reducible refine gate_dst (N := 3) rfl ?_); refine box_event ?hg (N := 3) ?hd (cs := #[.int .i64 b.f0, .int .i64 b.f1, .int .i64 b.f2]) (t := 61) ?hr ?_; (case hd => rfl); (case hg => rfl); (case hr => first | (go_simp; done) | (go_simp; rfl)); intro gc hg w2 hbox hb1; have hcgc_0 : w2.cell? ⟨gc, 0, none⟩ = some (.int .i64 b.f0) := (blk_cell hbox 0).trans rfl; have hcgc_1 : w2.cell? ⟨gc, 1, none⟩ = some (.int .i64 b.f1) := (blk_cell hbox 1).trans rfl; have hcgc_2 : w2.cell? ⟨gc, 2, none⟩ = some (.int .i64 b.f2) := (blk_cell hbox 2).trans rfl; have HBw2 := Aside0.mk hb1; replace hcgb_0 := pw_cell_below HBw2.out hcgb_0; replace hcgb_1 := pw_cell_below HBw2.out hcgb_1; replace hcgb_2 := pw_cell_below HBw2.out hcgb_2; clear hbox hb1 hg))
        go_ret
        exact ⟨by rw [HV.out]; rfl, below_step HBw1.out HBw2.out⟩
      · have q2 : (a.f2 == 2) = false := by simpa using t2
        have p2 : (a.f2 != 2) = true := by simpa using t2
        have Q2 := Aside0.mk q2
        clear t2
        by_cases t3 : b.f2 = 2
        · have q3 : (b.f2 == 2) = true := by simpa using t3
          have p3 : (b.f2 != 2) = false := by simpa using t3
          have Q3 := Aside0.mk q3
          clear t3
          have HV : Aside0 (lk_agn a b = true) := ⟨by unfold lk_agn; rw [Q0.out, Q1.out, Q2.out, Q3.out]; rfl⟩
          go_enter Try.func64, Try.ntmps64
          go_wp2_with (first | ((with_reducible refine gate_dst (N := 2) rfl ?_); refine box_event ?hg (N := 2) ?hd (cs := #[.int .i64 a.f0, .int .i64 a.f1, .int .i64 a.f2]) (t := 61) ?hr ?_; (case hd => rfl); (case hg => rfl); (case hr => first | (go_simp; done) | (go_simp; rfl)); intro gb hg w1 hbox hb1; have hcgb_0 : w1.cell? ⟨gb, 0, none⟩ = some (.int .i64 a.f0) := (blk_cell hbox 0).trans rfl; have hcgb_1 : w1.cell? ⟨gb, 1, none⟩ = some (.int .i64 a.f1) := (blk_cell hbox 1).trans rfl; have hcgb_2 : w1.cell? ⟨gb, 2, none⟩ = some (.int .i64 a.f2) := (blk_cell hbox 2).trans rfl; have HBw1 := Aside0.mk hb1; clear hbox hb1 hg) | ((with_reducible refine gate_dst (N := 3) rfl ?_); refine box_event ?hg (N := 3) ?hd (cs := #[.int .i64 b.f0, .int .i64 b.f1, .int .i64 b.f2]) (t := 61) ?hr ?_; (case hd => rfl); (case hg => rfl); (case hr => first | (go_simp; done) | (go_simp; rfl)); intro gc hg w2 hbox hb1; have hcgc_0 : w2.cell? ⟨gc, 0, none⟩ = some (.int .i64 b.f0) := (blk_cell hbox 0).trans rfl; have hcgc_1 : w2.cell? ⟨gc, 1, none⟩ = some (.int .i64 b.f1) := (blk_cell hbox 1).trans rfl; have hcgc_2 : w2.cell? ⟨gc, 2, none⟩ = some (.int .i64 b.f2) := (blk_cell hbox 2).trans rfl; have HBw2 := Aside0.mk hb1; replace hcgb_0 := pw_cell_below HBw2.out hcgb_0; replace hcgb_1 := pw_cell_below HBw2.out hcgb_1; replace hcgb_2 := pw_cell_below HBw2.out hcgb_2; clear hbox hb1 hg))
          go_ret
          exact ⟨by rw [HV.out]; rfl, below_step HBw1.out HBw2.out⟩
        · have q3 : (b.f2 == 2) = false := by simpa using t3
          have p3 : (b.f2 != 2) = true := by simpa using t3
          have Q3 := Aside0.mk q3
          clear t3
          have HV : Aside0 (lk_agn a b = false) := ⟨by unfold lk_agn; rw [Q0.out, Q1.out, Q2.out, Q3.out]; rfl⟩
          go_enter Try.func64, Try.ntmps64
          go_wp2_with (first | ((with_reducible refine gate_dst (N := 2) rfl ?_); refine box_event ?hg (N := 2) ?hd (cs := #[.int .i64 a.f0, .int .i64 a.f1, .int .i64 a.f2]) (t := 61) ?hr ?_; (case hd => rfl); (case hg => rfl); (case hr => first | (go_simp; done) | (go_simp; rfl)); intro gb hg w1 hbox hb1; have hcgb_0 : w1.cell? ⟨gb, 0, none⟩ = some (.int .i64 a.f0) := (blk_cell hbox 0).trans rfl; have hcgb_1 : w1.cell? ⟨gb, 1, none⟩ = some (.int .i64 a.f1) := (blk_cell hbox 1).trans rfl; have hcgb_2 : w1.cell? ⟨gb, 2, none⟩ = some (.int .i64 a.f2) := (blk_cell hbox 2).trans rfl; have HBw1 := Aside0.mk hb1; clear hbox hb1 hg) | ((with_reducible refine gate_dst (N := 3) rfl ?_); refine box_event ?hg (N := 3) ?hd (cs := #[.int .i64 b.f0, .int .i64 b.f1, .int .i64 b.f2]) (t := 61) ?hr ?_; (case hd => rfl); (case hg => rfl); (case hr => first | (go_simp; done) | (go_simp; rfl)); intro gc hg w2 hbox hb1; have hcgc_0 : w2.cell? ⟨gc, 0, none⟩ = some (.int .i64 b.f0) := (blk_cell hbox 0).trans rfl; have hcgc_1 : w2.cell? ⟨gc, 1, none⟩ = some (.int .i64 b.f1) := (blk_cell hbox 1).trans rfl; have hcgc_2 : w2.cell? ⟨gc, 2, none⟩ = some (.int .i64 b.f2) := (blk_cell hbox 2).trans rfl; have HBw2 := Aside0.mk hb1; replace hcgb_0 := pw_cell_below HBw2.out hcgb_0; replace hcgb_1 := pw_cell_below HBw2.out hcgb_1; replace hcgb_2 := pw_cell_below HBw2.out hcgb_2; clear hbox hb1 hg))
          go_ret
          exact ⟨by rw [HV.out]; rfl, below_step HBw1.out HBw2.out⟩
  · have q0 : (a.f1 == b.f1) = false := by simpa using t0
    have p0 : (a.f1 != b.f1) = true := by simpa using t0
    have Q0 := Aside0.mk q0
    clear t0
    have HV : Aside0 (lk_agn a b = false) := ⟨by unfold lk_agn; rw [Q0.out]; rfl⟩
    go_enter Try.func64, Try.ntmps64
    go_wp2_with (first | ((with_reducible refine gate_dst (N := 2) rfl ?_); refine box_event ?hg (N := 2) ?hd (cs := #[.int .i64 a.f0, .int .i64 a.f1, .int .i64 a.f2]) (t := 61) ?hr ?_; (case hd => rfl); (case hg => rfl); (case hr => first | (go_simp; done) | (go_simp; rfl)); intro gb hg w1 hbox hb1; have hcgb_0 : w1.cell? ⟨gb, 0, none⟩ = some (.int .i64 a.f0) := (blk_cell hbox 0).trans rfl; have hcgb_1 : w1.cell? ⟨gb, 1, none⟩ = some (.int .i64 a.f1) := (blk_cell hbox 1).trans rfl; have hcgb_2 : w1.cell? ⟨gb, 2, none⟩ = some (.int .i64 a.f2) := (blk_cell hbox 2).trans rfl; have HBw1 := Aside0.mk hb1; clear hbox hb1 hg) | ((with_reducible refine gate_dst (N := 3) rfl ?_); refine box_event ?hg (N := 3) ?hd (cs := #[.int .i64 b.f0, .int .i64 b.f1, .int .i64 b.f2]) (t := 61) ?hr ?_; (case hd => rfl); (case hg => rfl); (case hr => first | (go_simp; done) | (go_simp; rfl)); intro gc hg w2 hbox hb1; have hcgc_0 : w2.cell? ⟨gc, 0, none⟩ = some (.int .i64 b.f0) := (blk_cell hbox 0).trans rfl; have hcgc_1 : w2.cell? ⟨gc, 1, none⟩ = some (.int .i64 b.f1) := (blk_cell hbox 1).trans rfl; have hcgc_2 : w2.cell? ⟨gc, 2, none⟩ = some (.int .i64 b.f2) := (blk_cell hbox 2).trans rfl; have HBw2 := Aside0.mk hb1; replace hcgb_0 := pw_cell_below HBw2.out hcgb_0; replace hcgb_1 := pw_cell_below HBw2.out hcgb_1; replace hcgb_2 := pw_cell_below HBw2.out hcgb_2; clear hbox hb1 hg))
    go_ret
    exact ⟨by rw [HV.out]; rfl, below_step HBw1.out HBw2.out⟩
set_option maxHeartbeats 8000000 in
set_option maxRecDepth 100000 in
theorem lk_covers (a b : LA) (w : World) : Calls Try.prog 67 #[.agg #[.int .i64 a.f0, .int .i64 a.f1, .int .i64 a.f2], .agg #[.int .i64 b.f0, .int .i64 b.f1, .int .i64 b.f2]] w fun e w' => e = .returned (.bool (lk_cov a b)) ∧ Below w.heap.size w w' := by
  have hu61 := Try.underlying61
  by_cases t0 : a.f1 = b.f1
  · have q0 : (a.f1 == b.f1) = true := by simpa using t0
    have p0 : (a.f1 != b.f1) = false := by simpa using t0
    have Q0 := Aside0.mk q0
    clear t0
    by_cases t1 : a.f0 = b.f0
    · have q1 : (a.f0 == b.f0) = true := by simpa using t1
      have p1 : (a.f0 != b.f0) = false := by simpa using t1
      have Q1 := Aside0.mk q1
      clear t1
      by_cases t2 : b.f2 ≤ a.f2
      · have q2 : (decide (b.f2 ≤ a.f2)) = true := by simpa using t2
        have Q2 := Aside0.mk q2
        clear t2
        have HV : Aside0 (lk_cov a b = true) := ⟨by unfold lk_cov; rw [Q0.out, Q1.out]; exact Q2.out⟩
        go_enter Try.func67, Try.ntmps67
        go_wp2_with (first | ((with_reducible refine gate_dst (N := 2) rfl ?_); refine box_event ?hg (N := 2) ?hd (cs := #[.int .i64 a.f0, .int .i64 a.f1, .int .i64 a.f2]) (t := 61) ?hr ?_; (case hd => rfl); (case hg => rfl); (case hr => first | (go_simp; done) | (go_simp; rfl)); intro gb hg w1 hbox hb1; have hcgb_0 : w1.cell? ⟨gb, 0, none⟩ = some (.int .i64 a.f0) := (blk_cell hbox 0).trans rfl; have hcgb_1 : w1.cell? ⟨gb, 1, none⟩ = some (.int .i64 a.f1) := (blk_cell hbox 1).trans rfl; have hcgb_2 : w1.cell? ⟨gb, 2, none⟩ = some (.int .i64 a.f2) := (blk_cell hbox 2).trans rfl; have HBw1 := Aside0.mk hb1; clear hbox hb1 hg) | ((with_reducible refine gate_dst (N := 3) rfl ?_); refine box_event ?hg (N := 3) ?hd (cs := #[.int .i64 b.f0, .int .i64 b.f1, .int .i64 b.f2]) (t := 61) ?hr ?_; (case hd => rfl); (case hg => rfl); (case hr => first | (go_simp; done) | (go_simp; rfl)); intro gc hg w2 hbox hb1; have hcgc_0 : w2.cell? ⟨gc, 0, none⟩ = some (.int .i64 b.f0) := (blk_cell hbox 0).trans rfl; have hcgc_1 : w2.cell? ⟨gc, 1, none⟩ = some (.int .i64 b.f1) := (blk_cell hbox 1).trans rfl; have hcgc_2 : w2.cell? ⟨gc, 2, none⟩ = some (.int .i64 b.f2) := (blk_cell hbox 2).trans rfl; have HBw2 := Aside0.mk hb1; replace hcgb_0 := pw_cell_below HBw2.out hcgb_0; replace hcgb_1 := pw_cell_below HBw2.out hcgb_1; replace hcgb_2 := pw_cell_below HBw2.out hcgb_2; clear hbox hb1 hg))
        go_ret
        exact ⟨by rw [HV.out]; rfl, below_step HBw1.out HBw2.out⟩
      · have q2 : (decide (b.f2 ≤ a.f2)) = false := by simpa using t2
        have Q2 := Aside0.mk q2
        clear t2
        have HV : Aside0 (lk_cov a b = false) := ⟨by unfold lk_cov; rw [Q0.out, Q1.out]; exact Q2.out⟩
        go_enter Try.func67, Try.ntmps67
        go_wp2_with (first | ((with_reducible refine gate_dst (N := 2) rfl ?_); refine box_event ?hg (N := 2) ?hd (cs := #[.int .i64 a.f0, .int .i64 a.f1, .int .i64 a.f2]) (t := 61) ?hr ?_; (case hd => rfl); (case hg => rfl); (case hr => first | (go_simp; done) | (go_simp; rfl)); intro gb hg w1 hbox hb1; have hcgb_0 : w1.cell? ⟨gb, 0, none⟩ = some (.int .i64 a.f0) := (blk_cell hbox 0).trans rfl; have hcgb_1 : w1.cell? ⟨gb, 1, none⟩ = some (.int .i64 a.f1) := (blk_cell hbox 1).trans rfl; have hcgb_2 : w1.cell? ⟨gb, 2, none⟩ = some (.int .i64 a.f2) := (blk_cell hbox 2).trans rfl; have HBw1 := Aside0.mk hb1; clear hbox hb1 hg) | ((with_reducible refine gate_dst (N := 3) rfl ?_); refine box_event ?hg (N := 3) ?hd (cs := #[.int .i64 b.f0, .int .i64 b.f1, .int .i64 b.f2]) (t := 61) ?hr ?_; (case hd => rfl); (case hg => rfl); (case hr => first | (go_simp; done) | (go_simp; rfl)); intro gc hg w2 hbox hb1; have hcgc_0 : w2.cell? ⟨gc, 0, none⟩ = some (.int .i64 b.f0) := (blk_cell hbox 0).trans rfl; have hcgc_1 : w2.cell? ⟨gc, 1, none⟩ = some (.int .i64 b.f1) := (blk_cell hbox 1).trans rfl; have hcgc_2 : w2.cell? ⟨gc, 2, none⟩ = some (.int .i64 b.f2) := (blk_cell hbox 2).trans rfl; have HBw2 := Aside0.mk hb1; replace hcgb_0 := pw_cell_below HBw2.out hcgb_0; replace hcgb_1 := pw_cell_below HBw2.out hcgb_1; replace hcgb_2 := pw_cell_below HBw2.out hcgb_2; clear hbox hb1 hg))
        go_ret
        exact ⟨by rw [HV.out]; rfl, below_step HBw1.out HBw2.out⟩
    · have q1 : (a.f0 == b.f0) = false := by simpa using t1
      have p1 : (a.f0 != b.f0) = true := by simpa using t1
      have Q1 := Aside0.mk q1
      clear t1
      have HV : Aside0 (lk_cov a b = false) := ⟨by unfold lk_cov; rw [Q0.out, Q1.out]; rfl⟩
      go_enter Try.func67, Try.ntmps67
      go_wp2_with (first | ((with_reducible refine gate_dst (N := 2) rfl ?_); refine box_event ?hg (N := 2) ?hd (cs := #[.int .i64 a.f0, .int .i64 a.f1, .int .i64 a.f2]) (t := 61) ?hr ?_; (case hd => rfl); (case hg => rfl); (case hr => first | (go_simp; done) | (go_simp; rfl)); intro gb hg w1 hbox hb1; have hcgb_0 : w1.cell? ⟨gb, 0, none⟩ = some (.int .i64 a.f0) := (blk_cell hbox 0).trans rfl; have hcgb_1 : w1.cell? ⟨gb, 1, none⟩ = some (.int .i64 a.f1) := (blk_cell hbox 1).trans rfl; have hcgb_2 : w1.cell? ⟨gb, 2, none⟩ = some (.int .i64 a.f2) := (blk_cell hbox 2).trans rfl; have HBw1 := Aside0.mk hb1; clear hbox hb1 hg) | ((with_reducible refine gate_dst (N := 3) rfl ?_); refine box_event ?hg (N := 3) ?hd (cs := #[.int .i64 b.f0, .int .i64 b.f1, .int .i64 b.f2]) (t := 61) ?hr ?_; (case hd => rfl); (case hg => rfl); (case hr => first | (go_simp; done) | (go_simp; rfl)); intro gc hg w2 hbox hb1; have hcgc_0 : w2.cell? ⟨gc, 0, none⟩ = some (.int .i64 b.f0) := (blk_cell hbox 0).trans rfl; have hcgc_1 : w2.cell? ⟨gc, 1, none⟩ = some (.int .i64 b.f1) := (blk_cell hbox 1).trans rfl; have hcgc_2 : w2.cell? ⟨gc, 2, none⟩ = some (.int .i64 b.f2) := (blk_cell hbox 2).trans rfl; have HBw2 := Aside0.mk hb1; replace hcgb_0 := pw_cell_below HBw2.out hcgb_0; replace hcgb_1 := pw_cell_below HBw2.out hcgb_1; replace hcgb_2 := pw_cell_below HBw2.out hcgb_2; clear hbox hb1 hg))
      go_ret
      exact ⟨by rw [HV.out]; rfl, below_step HBw1.out HBw2.out⟩
  · have q0 : (a.f1 == b.f1) = false := by simpa using t0
    have p0 : (a.f1 != b.f1) = true := by simpa using t0
    have Q0 := Aside0.mk q0
    clear t0
    have HV : Aside0 (lk_cov a b = false) := ⟨by unfold lk_cov; rw [Q0.out]; rfl⟩
    go_enter Try.func67, Try.ntmps67
    go_wp2_with (first | ((with_reducible refine gate_dst (N := 2) rfl ?_); refine box_event ?hg (N := 2) ?hd (cs := #[.int .i64 a.f0, .int .i64 a.f1, .int .i64 a.f2]) (t := 61) ?hr ?_; (case hd => rfl); (case hg => rfl); (case hr => first | (go_simp; done) | (go_simp; rfl)); intro gb hg w1 hbox hb1; have hcgb_0 : w1.cell? ⟨gb, 0, none⟩ = some (.int .i64 a.f0) := (blk_cell hbox 0).trans rfl; have hcgb_1 : w1.cell? ⟨gb, 1, none⟩ = some (.int .i64 a.f1) := (blk_cell hbox 1).trans rfl; have hcgb_2 : w1.cell? ⟨gb, 2, none⟩ = some (.int .i64 a.f2) := (blk_cell hbox 2).trans rfl; have HBw1 := Aside0.mk hb1; clear hbox hb1 hg) | ((with_reducible refine gate_dst (N := 3) rfl ?_); refine box_event ?hg (N := 3) ?hd (cs := #[.int .i64 b.f0, .int .i64 b.f1, .int .i64 b.f2]) (t := 61) ?hr ?_; (case hd => rfl); (case hg => rfl); (case hr => first | (go_simp; done) | (go_simp; rfl)); intro gc hg w2 hbox hb1; have hcgc_0 : w2.cell? ⟨gc, 0, none⟩ = some (.int .i64 b.f0) := (blk_cell hbox 0).trans rfl; have hcgc_1 : w2.cell? ⟨gc, 1, none⟩ = some (.int .i64 b.f1) := (blk_cell hbox 1).trans rfl; have hcgc_2 : w2.cell? ⟨gc, 2, none⟩ = some (.int .i64 b.f2) := (blk_cell hbox 2).trans rfl; have HBw2 := Aside0.mk hb1; replace hcgb_0 := pw_cell_below HBw2.out hcgb_0; replace hcgb_1 := pw_cell_below HBw2.out hcgb_1; replace hcgb_2 := pw_cell_below HBw2.out hcgb_2; clear hbox hb1 hg))
    go_ret
    exact ⟨by rw [HV.out]; rfl, below_step HBw1.out HBw2.out⟩
set_option maxHeartbeats 8000000 in
set_option maxRecDepth 100000 in
theorem lk_each_dup (W0 W : World) (gb : Nat) (a x : LA) (cs : List Value) (h0 : W0.cell? ⟨gb, 0, none⟩ = some (.int .i64 a.f0)) (h1 : W0.cell? ⟨gb, 1, none⟩ = some (.int .i64 a.f1)) (h2 : W0.cell? ⟨gb, 2, none⟩ = some (.int .i64 a.f2)) (hb : Below W0.heap.size W0 W) (hK : Kd.K k61 W x cs) :
    Calls Try.prog 63 (#[.agg cs.toArray] ++ #[.pointer (some ⟨gb, 0, none⟩)]) W fun e w' => e = .returned (.bool (lk_dup a x)) ∧ Below W0.heap.size W0 w' := by
  obtain ⟨_, _, rfl, rfl, _, _, rfl, rfl, rfl⟩ := hK
  have ha0 := pw_cell_below hb h0
  have ha1 := pw_cell_below hb h1
  have ha2 := pw_cell_below hb h2
  have HB := Aside0.mk hb
  clear hb h0 h1 h2
  have hu61 := Try.underlying61
  show Calls Try.prog 63 #[.agg #[.int .i64 x.f0, .int .i64 x.f1, .int .i64 x.f2], .pointer (some ⟨gb, 0, none⟩)] W _
  by_cases t0 : x.f0 = a.f0
  · have q0 : (x.f0 == a.f0) = true := by simpa using t0
    have p0 : (x.f0 != a.f0) = false := by simpa using t0
    have Q0 := Aside0.mk q0
    clear t0
    by_cases t1 : x.f1 = a.f1
    · have q1 : (x.f1 == a.f1) = true := by simpa using t1
      have p1 : (x.f1 != a.f1) = false := by simpa using t1
      have Q1 := Aside0.mk q1
      clear t1
      have HV : Aside0 (lk_dup a x = true) := ⟨by unfold lk_dup lk_same; rw [Q0.out, Q1.out]; rfl⟩
      go_enter Try.func63, Try.ntmps63
      go_wp2_with (first | ((with_reducible refine gate_dst (N := 2) rfl ?_); refine box_event ?hg (N := 2) ?hd (cs := #[.int .i64 x.f0, .int .i64 x.f1, .int .i64 x.f2]) (t := 61) ?hr ?_; (case hd => rfl); (case hg => rfl); (case hr => first | (go_simp; done) | (go_simp; rfl)); intro gw hg w1 hbox hb1; have hcgw_0 : w1.cell? ⟨gw, 0, none⟩ = some (.int .i64 x.f0) := (blk_cell hbox 0).trans rfl; have hcgw_1 : w1.cell? ⟨gw, 1, none⟩ = some (.int .i64 x.f1) := (blk_cell hbox 1).trans rfl; have hcgw_2 : w1.cell? ⟨gw, 2, none⟩ = some (.int .i64 x.f2) := (blk_cell hbox 2).trans rfl; have HBw1 := Aside0.mk hb1; replace ha0 := pw_cell_below HBw1.out ha0; replace ha1 := pw_cell_below HBw1.out ha1; replace ha2 := pw_cell_below HBw1.out ha2; clear hbox hb1 hg))
      go_ret
      exact ⟨by rw [HV.out]; rfl, below_step HB.out HBw1.out⟩
    · have q1 : (x.f1 == a.f1) = false := by simpa using t1
      have p1 : (x.f1 != a.f1) = true := by simpa using t1
      have Q1 := Aside0.mk q1
      clear t1
      have HV : Aside0 (lk_dup a x = lk_agn x a) := ⟨by unfold lk_dup lk_same; rw [Q0.out, Q1.out]; rfl⟩
      go_enter Try.func63, Try.ntmps63
      go_wp2_with (first | ((with_reducible refine gate_dst (N := 2) rfl ?_); refine box_event ?hg (N := 2) ?hd (cs := #[.int .i64 x.f0, .int .i64 x.f1, .int .i64 x.f2]) (t := 61) ?hr ?_; (case hd => rfl); (case hg => rfl); (case hr => first | (go_simp; done) | (go_simp; rfl)); intro gw hg w1 hbox hb1; have hcgw_0 : w1.cell? ⟨gw, 0, none⟩ = some (.int .i64 x.f0) := (blk_cell hbox 0).trans rfl; have hcgw_1 : w1.cell? ⟨gw, 1, none⟩ = some (.int .i64 x.f1) := (blk_cell hbox 1).trans rfl; have hcgw_2 : w1.cell? ⟨gw, 2, none⟩ = some (.int .i64 x.f2) := (blk_cell hbox 2).trans rfl; have HBw1 := Aside0.mk hb1; replace ha0 := pw_cell_below HBw1.out ha0; replace ha1 := pw_cell_below HBw1.out ha1; replace ha2 := pw_cell_below HBw1.out ha2; clear hbox hb1 hg) | (go_at_call 64; (with_reducible refine (lk_against x a _).mono ?_); rintro e w2 ⟨rfl, hb2⟩; have HBw2 := Aside0.mk hb2; clear hb2))
      go_ret
      exact ⟨by rw [HV.out]; rfl, below_step (below_step HB.out HBw1.out) HBw2.out⟩
  · have q0 : (x.f0 == a.f0) = false := by simpa using t0
    have p0 : (x.f0 != a.f0) = true := by simpa using t0
    have Q0 := Aside0.mk q0
    clear t0
    have HV : Aside0 (lk_dup a x = lk_agn x a) := ⟨by unfold lk_dup lk_same; rw [Q0.out]; rfl⟩
    go_enter Try.func63, Try.ntmps63
    go_wp2_with (first | ((with_reducible refine gate_dst (N := 2) rfl ?_); refine box_event ?hg (N := 2) ?hd (cs := #[.int .i64 x.f0, .int .i64 x.f1, .int .i64 x.f2]) (t := 61) ?hr ?_; (case hd => rfl); (case hg => rfl); (case hr => first | (go_simp; done) | (go_simp; rfl)); intro gw hg w1 hbox hb1; have hcgw_0 : w1.cell? ⟨gw, 0, none⟩ = some (.int .i64 x.f0) := (blk_cell hbox 0).trans rfl; have hcgw_1 : w1.cell? ⟨gw, 1, none⟩ = some (.int .i64 x.f1) := (blk_cell hbox 1).trans rfl; have hcgw_2 : w1.cell? ⟨gw, 2, none⟩ = some (.int .i64 x.f2) := (blk_cell hbox 2).trans rfl; have HBw1 := Aside0.mk hb1; replace ha0 := pw_cell_below HBw1.out ha0; replace ha1 := pw_cell_below HBw1.out ha1; replace ha2 := pw_cell_below HBw1.out ha2; clear hbox hb1 hg) | (go_at_call 64; (with_reducible refine (lk_against x a _).mono ?_); rintro e w2 ⟨rfl, hb2⟩; have HBw2 := Aside0.mk hb2; clear hb2))
    go_ret
    exact ⟨by rw [HV.out]; rfl, below_step (below_step HB.out HBw1.out) HBw2.out⟩
set_option maxHeartbeats 8000000 in
set_option maxRecDepth 100000 in
theorem lk_each_who (W0 W : World) (gb : Nat) (a x : LA) (cs : List Value) (h0 : W0.cell? ⟨gb, 0, none⟩ = some (.int .i64 a.f0)) (h1 : W0.cell? ⟨gb, 1, none⟩ = some (.int .i64 a.f1)) (h2 : W0.cell? ⟨gb, 2, none⟩ = some (.int .i64 a.f2)) (hb : Below W0.heap.size W0 W) (hK : Kd.K k61 W x cs) :
    Calls Try.prog 65 (#[.agg cs.toArray] ++ #[.pointer (some ⟨gb, 0, none⟩)]) W fun e w' => e = .returned (.bool (lk_who a x)) ∧ Below W0.heap.size W0 w' := by
  obtain ⟨_, _, rfl, rfl, _, _, rfl, rfl, rfl⟩ := hK
  have ha0 := pw_cell_below hb h0
  have ha1 := pw_cell_below hb h1
  have ha2 := pw_cell_below hb h2
  have HB := Aside0.mk hb
  clear hb h0 h1 h2
  have hu61 := Try.underlying61
  show Calls Try.prog 65 #[.agg #[.int .i64 x.f0, .int .i64 x.f1, .int .i64 x.f2], .pointer (some ⟨gb, 0, none⟩)] W _
  have HV : Aside0 (lk_who a x = (x.f0 == a.f0)) := ⟨by rfl⟩
  go_enter Try.func65, Try.ntmps65
  go_wp2_with (first | ((with_reducible refine gate_dst (N := 2) rfl ?_); refine box_event ?hg (N := 2) ?hd (cs := #[.int .i64 x.f0, .int .i64 x.f1, .int .i64 x.f2]) (t := 61) ?hr ?_; (case hd => rfl); (case hg => rfl); (case hr => first | (go_simp; done) | (go_simp; rfl)); intro gw hg w1 hbox hb1; have hcgw_0 : w1.cell? ⟨gw, 0, none⟩ = some (.int .i64 x.f0) := (blk_cell hbox 0).trans rfl; have hcgw_1 : w1.cell? ⟨gw, 1, none⟩ = some (.int .i64 x.f1) := (blk_cell hbox 1).trans rfl; have hcgw_2 : w1.cell? ⟨gw, 2, none⟩ = some (.int .i64 x.f2) := (blk_cell hbox 2).trans rfl; have HBw1 := Aside0.mk hb1; replace ha0 := pw_cell_below HBw1.out ha0; replace ha1 := pw_cell_below HBw1.out ha1; replace ha2 := pw_cell_below HBw1.out ha2; clear hbox hb1 hg))
  go_ret
  exact ⟨by rw [HV.out]; rfl, below_step HB.out HBw1.out⟩
set_option maxHeartbeats 8000000 in
set_option maxRecDepth 100000 in
theorem lk_each_cov (W0 W : World) (gb : Nat) (a x : LA) (cs : List Value) (h0 : W0.cell? ⟨gb, 0, none⟩ = some (.int .i64 a.f0)) (h1 : W0.cell? ⟨gb, 1, none⟩ = some (.int .i64 a.f1)) (h2 : W0.cell? ⟨gb, 2, none⟩ = some (.int .i64 a.f2)) (hb : Below W0.heap.size W0 W) (hK : Kd.K k61 W x cs) :
    Calls Try.prog 66 (#[.agg cs.toArray] ++ #[.pointer (some ⟨gb, 0, none⟩)]) W fun e w' => e = .returned (.bool (lk_cov x a)) ∧ Below W0.heap.size W0 w' := by
  obtain ⟨_, _, rfl, rfl, _, _, rfl, rfl, rfl⟩ := hK
  have ha0 := pw_cell_below hb h0
  have ha1 := pw_cell_below hb h1
  have ha2 := pw_cell_below hb h2
  have HB := Aside0.mk hb
  clear hb h0 h1 h2
  have hu61 := Try.underlying61
  show Calls Try.prog 66 #[.agg #[.int .i64 x.f0, .int .i64 x.f1, .int .i64 x.f2], .pointer (some ⟨gb, 0, none⟩)] W _
  go_enter Try.func66, Try.ntmps66
  go_wp2_with (first | ((with_reducible refine gate_dst (N := 2) rfl ?_); refine box_event ?hg (N := 2) ?hd (cs := #[.int .i64 x.f0, .int .i64 x.f1, .int .i64 x.f2]) (t := 61) ?hr ?_; (case hd => rfl); (case hg => rfl); (case hr => first | (go_simp; done) | (go_simp; rfl)); intro gw hg w1 hbox hb1; have hcgw_0 : w1.cell? ⟨gw, 0, none⟩ = some (.int .i64 x.f0) := (blk_cell hbox 0).trans rfl; have hcgw_1 : w1.cell? ⟨gw, 1, none⟩ = some (.int .i64 x.f1) := (blk_cell hbox 1).trans rfl; have hcgw_2 : w1.cell? ⟨gw, 2, none⟩ = some (.int .i64 x.f2) := (blk_cell hbox 2).trans rfl; have HBw1 := Aside0.mk hb1; replace ha0 := pw_cell_below HBw1.out ha0; replace ha1 := pw_cell_below HBw1.out ha1; replace ha2 := pw_cell_below HBw1.out ha2; clear hbox hb1 hg) | (go_at_call 67; (with_reducible refine (lk_covers x a _).mono ?_); rintro e w2 ⟨rfl, hb2⟩; have HBw2 := Aside0.mk hb2; clear hb2))
  go_ret
  exact ⟨rfl, below_step (below_step HB.out HBw1.out) HBw2.out⟩
set_option maxHeartbeats 8000000 in
set_option maxRecDepth 100000 in
theorem lk_each_ahead (W0 W : World) (gb : Nat) (a x : LA) (cs : List Value) (h0 : W0.cell? ⟨gb, 0, none⟩ = some (.int .i64 a.f0)) (h1 : W0.cell? ⟨gb, 1, none⟩ = some (.int .i64 a.f1)) (h2 : W0.cell? ⟨gb, 2, none⟩ = some (.int .i64 a.f2)) (hb : Below W0.heap.size W0 W) (hK : Kd.K k61 W x cs) :
    Calls Try.prog 101 (#[.agg cs.toArray] ++ #[.pointer (some ⟨gb, 0, none⟩)]) W fun e w' => e = .returned (.bool (lk_ahead a x)) ∧ Below W0.heap.size W0 w' := by
  obtain ⟨_, _, rfl, rfl, _, _, rfl, rfl, rfl⟩ := hK
  have ha0 := pw_cell_below hb h0
  have ha1 := pw_cell_below hb h1
  have ha2 := pw_cell_below hb h2
  have HB := Aside0.mk hb
  clear hb h0 h1 h2
  have hu61 := Try.underlying61
  show Calls Try.prog 101 #[.agg #[.int .i64 x.f0, .int .i64 x.f1, .int .i64 x.f2], .pointer (some ⟨gb, 0, none⟩)] W _
  by_cases t0 : x.f1 = a.f1
  · have q0 : (x.f1 == a.f1) = true := by simpa using t0
    have p0 : (x.f1 != a.f1) = false := by simpa using t0
    have Q0 := Aside0.mk q0
    clear t0
    by_cases t1 : x.f0 = a.f0
    · have q1 : (x.f0 == a.f0) = true := by simpa using t1
      have p1 : (x.f0 != a.f0) = false := by simpa using t1
      have Q1 := Aside0.mk q1
      clear t1
      have HV : Aside0 (lk_ahead a x = false) := ⟨by unfold lk_ahead; rw [Q0.out, Q1.out]; rfl⟩
      go_enter Try.func101, Try.ntmps101
      go_wp2_with (first | ((with_reducible refine gate_dst (N := 2) rfl ?_); refine box_event ?hg (N := 2) ?hd (cs := #[.int .i64 x.f0, .int .i64 x.f1, .int .i64 x.f2]) (t := 61) ?hr ?_; (case hd => rfl); (case hg => rfl); (case hr => first | (go_simp; done) | (go_simp; rfl)); intro gw hg w1 hbox hb1; have hcgw_0 : w1.cell? ⟨gw, 0, none⟩ = some (.int .i64 x.f0) := (blk_cell hbox 0).trans rfl; have hcgw_1 : w1.cell? ⟨gw, 1, none⟩ = some (.int .i64 x.f1) := (blk_cell hbox 1).trans rfl; have hcgw_2 : w1.cell? ⟨gw, 2, none⟩ = some (.int .i64 x.f2) := (blk_cell hbox 2).trans rfl; have HBw1 := Aside0.mk hb1; replace ha0 := pw_cell_below HBw1.out ha0; replace ha1 := pw_cell_below HBw1.out ha1; replace ha2 := pw_cell_below HBw1.out ha2; clear hbox hb1 hg))
      go_ret
      exact ⟨by rw [HV.out]; rfl, below_step HB.out HBw1.out⟩
    · have q1 : (x.f0 == a.f0) = false := by simpa using t1
      have p1 : (x.f0 != a.f0) = true := by simpa using t1
      have Q1 := Aside0.mk q1
      clear t1
      have HV : Aside0 (lk_ahead a x = true) := ⟨by unfold lk_ahead; rw [Q0.out, Q1.out]; rfl⟩
      go_enter Try.func101, Try.ntmps101
      go_wp2_with (first | ((with_reducible refine gate_dst (N := 2) rfl ?_); refine box_event ?hg (N := 2) ?hd (cs := #[.int .i64 x.f0, .int .i64 x.f1, .int .i64 x.f2]) (t := 61) ?hr ?_; (case hd => rfl); (case hg => rfl); (case hr => first | (go_simp; done) | (go_simp; rfl)); intro gw hg w1 hbox hb1; have hcgw_0 : w1.cell? ⟨gw, 0, none⟩ = some (.int .i64 x.f0) := (blk_cell hbox 0).trans rfl; have hcgw_1 : w1.cell? ⟨gw, 1, none⟩ = some (.int .i64 x.f1) := (blk_cell hbox 1).trans rfl; have hcgw_2 : w1.cell? ⟨gw, 2, none⟩ = some (.int .i64 x.f2) := (blk_cell hbox 2).trans rfl; have HBw1 := Aside0.mk hb1; replace ha0 := pw_cell_below HBw1.out ha0; replace ha1 := pw_cell_below HBw1.out ha1; replace ha2 := pw_cell_below HBw1.out ha2; clear hbox hb1 hg))
      go_ret
      exact ⟨by rw [HV.out]; rfl, below_step HB.out HBw1.out⟩
  · have q0 : (x.f1 == a.f1) = false := by simpa using t0
    have p0 : (x.f1 != a.f1) = true := by simpa using t0
    have Q0 := Aside0.mk q0
    clear t0
    have HV : Aside0 (lk_ahead a x = false) := ⟨by unfold lk_ahead; rw [Q0.out]; rfl⟩
    go_enter Try.func101, Try.ntmps101
    go_wp2_with (first | ((with_reducible refine gate_dst (N := 2) rfl ?_); refine box_event ?hg (N := 2) ?hd (cs := #[.int .i64 x.f0, .int .i64 x.f1, .int .i64 x.f2]) (t := 61) ?hr ?_; (case hd => rfl); (case hg => rfl); (case hr => first | (go_simp; done) | (go_simp; rfl)); intro gw hg w1 hbox hb1; have hcgw_0 : w1.cell? ⟨gw, 0, none⟩ = some (.int .i64 x.f0) := (blk_cell hbox 0).trans rfl; have hcgw_1 : w1.cell? ⟨gw, 1, none⟩ = some (.int .i64 x.f1) := (blk_cell hbox 1).trans rfl; have hcgw_2 : w1.cell? ⟨gw, 2, none⟩ = some (.int .i64 x.f2) := (blk_cell hbox 2).trans rfl; have HBw1 := Aside0.mk hb1; replace ha0 := pw_cell_below HBw1.out ha0; replace ha1 := pw_cell_below HBw1.out ha1; replace ha2 := pw_cell_below HBw1.out ha2; clear hbox hb1 hg))
    go_ret
    exact ⟨by rw [HV.out]; rfl, below_step HB.out HBw1.out⟩
set_option maxHeartbeats 8000000 in
set_option maxRecDepth 100000 in
theorem lk_idxf (p : S61 → Bool) (g : Nat) (fb lb : Array Value) (eg : ∀ args w, (callFunc g args).run Try.prog w = .ok (.enter g args) w) (A0 : Option Addr) (c0 : Nat) (l0 : List S61) (w : World) (hr0 : Kd.C k61 w A0 l0.length l0)
    (hp : ∀ (W : World) (x : S61) (cs : List Value), x ∈ l0 → Below w.heap.size w W → Kd.K k61 W x cs → Calls Try.prog g (fb.push (.agg cs.toArray) ++ lb) W fun e w' => e = .returned (.bool (p x)) ∧ Below w.heap.size w w') :
    Calls Try.prog 100 #[.slice A0 l0.length c0, .func (.func g) fb lb] w fun e w' => e = .returned (.int .i64 (idxFrom p l0 0)) ∧ Below w.heap.size w w' := by
  have aE : ∀ w, (isAgg 61).run Try.prog w = .ok true w := fun w => by kernel_rfl
  obtain ⟨kS, hkS⟩ : ∃ kS, kS = 3 := ⟨_, rfl⟩
  have zE : ∀ w, (Go.sizeOf 61).run Try.prog w = .ok kS w := fun w => by rw [hkS]; kernel_rfl
  have HKS := Aside0.mk hkS
  clear hkS
  have hbig : l0.length ≤ 9223372036854775807 := hr0.2.1
  obtain ⟨n, hn⟩ : ∃ n, l0.length = n := ⟨_, rfl⟩
  have HR := Aside0.mk hr0
  have HP := Aside0.mk hp
  clear hr0 hp
  rw [hn] at HR hbig ⊢
  have HN := Aside0.mk hn
  clear hn
  go_enter Try.func100, Try.ntmps100
  go_wp2
  go_loopg [5, 8] n (fun gg _ s8 wr => ∃ kk : Nat, kk ≤ n ∧ n - kk ≤ gg ∧ s8 = .int .i64 kk ∧ Aside0 (Below w.heap.size w wr) ∧ Aside0 (∀ j (hj : j < kk) (hl : j < l0.length), p l0[j] = false))
  case atStart => exact ⟨0, Nat.zero_le _, by omega, rfl, ⟨Below.refl _ w⟩, ⟨fun j hj => absurd hj (Nat.not_lt_zero _)⟩⟩
  case round =>
    obtain ⟨kk, hkk, hg, rfl, BW, A⟩ := hrel
    by_cases hlt : kk < n
    · have hltz : decide ((kk : Int) < (n : Int)) = true := decide_eq_true (by omega)
      obtain ⟨ad, hA, hc⟩ := HR.out.2.2 (by omega)
      subst hA
      have hkl : kk < l0.length := by rw [HN.out]; exact hlt
      obtain ⟨cs, hcl, hK, hcell⟩ := hc kk (l0[kk]'hkl) (List.getElem?_eq_getElem hkl)
      have l2 := load_run Try.prog wr (ad.add (kk * kS)) cs kS (hcl.trans HKS.out.symm) (fun j v hj => by
        rw [add_add, HKS.out]
        exact (pw_cell_below BW.out (hcell j v hj)))
      have hcall := HP.out wr (l0[kk]'hkl) cs (List.getElem_mem hkl) BW.out (Kd.K_below k61 BW.out hK)
      have HY : ∃ y, l0[kk]'hkl = y := ⟨_, rfl⟩
      obtain ⟨y, hy⟩ := HY
      rw [hy] at hcall
      have HYY := Aside0.mk hy
      clear hy hc hcell hK
      cases hq : p y with
      | true =>
        rw [hq] at hcall
        go_wp2_with ((with_reducible refine hcall.mono ?_); rintro e w' ⟨rfl, hb'⟩)
        go_ret
        refine ⟨?_, hb'⟩
        rw [idx_hit p l0 kk 0 hkl (by rw [HYY.out]; exact hq) (fun j hj => A.out j hj (by rw [HN.out]; omega))]
        rw [Int.zero_add]
        rfl
      | false =>
        rw [hq] at hcall
        go_wp2_with ((with_reducible refine hcall.mono ?_); rintro e w' ⟨rfl, hb'⟩)
        go_roundg (n - (kk + 1))
        case measure => omega
        case rel =>
          refine ⟨kk + 1, by omega, by omega, by go_num, ⟨hb'⟩, ⟨fun j hj hl => ?_⟩⟩
          by_cases e : j = kk
          · subst e
            rw [HYY.out]; exact hq
          · exact A.out j (by omega) hl
    · have hltz : decide ((kk : Int) < (n : Int)) = false := decide_eq_false (by omega)
      have : kk = n := by omega
      subst this
      go_wp2
      go_ret
      refine ⟨?_, BW.out⟩
      rw [idx_miss p l0 0 (fun j hj => A.out j (by rw [← HN.out]; exact hj) hj)]
      rfl
set_option maxHeartbeats 8000000 in
set_option maxRecDepth 100000 in
theorem lk_hasf (p : S61 → Bool) (g : Nat) (fb lb : Array Value) (eg : ∀ args w, (callFunc g args).run Try.prog w = .ok (.enter g args) w) (A0 : Option Addr) (c0 : Nat) (l0 : List S61) (w : World) (hr0 : Kd.C k61 w A0 l0.length l0)
    (hp : ∀ (W : World) (x : S61) (cs : List Value), x ∈ l0 → Below w.heap.size w W → Kd.K k61 W x cs → Calls Try.prog g (fb.push (.agg cs.toArray) ++ lb) W fun e w' => e = .returned (.bool (p x)) ∧ Below w.heap.size w w') :
    Calls Try.prog 62 #[.slice A0 l0.length c0, .func (.func g) fb lb] w fun e w' => e = .returned (.bool (l0.any p)) ∧ Below w.heap.size w w' := by
  have HC := Aside0.mk (lk_idxf p g fb lb eg A0 c0 l0 w hr0 hp)
  have HA := Aside0.mk (idx_any p l0 0 (Int.le_refl _))
  clear hr0 hp
  obtain ⟨z, hz⟩ : ∃ z, idxFrom p l0 0 = z := ⟨_, rfl⟩
  rw [hz] at HC HA
  clear hz
  go_enter Try.func62, Try.ntmps62
  go_wp2_with (go_at_call 100; refine (HC.out).mono ?_; rintro e w' ⟨rfl, hb'⟩)
  go_ret
  refine ⟨?_, hb'⟩
  rw [← HA.out]
  rfl
theorem lk_run_mk (fn : Fn) (first cap : Array Value) (w : World) : (Instr.makeFunc fn first cap).run Try.prog w = .ok (.func fn first cap) w := rfl
attribute [local go_sem] lk_run_mk
set_option maxHeartbeats 8000000 in
set_option maxRecDepth 100000 in
theorem lk_free_calls (A0 : Option Addr) (c0 : Nat) (l0 : List LA) (A1 : Option Addr) (c1 : Nat) (l1 : List LA) (a : LA) (A2 : Option Addr) (c2 : Nat) (l2 : List LA) (w : World) (hr0 : Kd.C k61 w A0 l0.length l0) (hr2 : Kd.C k61 w A2 l2.length l2) :
    Calls Try.prog 68 #[.agg #[.slice A0 l0.length c0, .slice A1 l1.length c1], .agg #[.int .i64 a.f0, .int .i64 a.f1, .int .i64 a.f2], .slice A2 l2.length c2] w fun e w' => e = .returned (.bool (lk_free l0 a l2)) ∧ Below w.heap.size w w' := by
  have hu61 := Try.underlying61
  have hu53 := Try.underlying53
  have hu51 := Try.underlying51
  have HR0 := Aside0.mk hr0
  have HR2 := Aside0.mk hr2
  clear hr0 hr2
  have H1 : Aside0 (∀ (W : World), Below w.heap.size w W → Calls Try.prog 62 #[.slice A0 l0.length c0, .func (.func 64) #[.agg #[.int .i64 a.f0, .int .i64 a.f1, .int .i64 a.f2]] #[]] W fun e w' => e = .returned (.bool (l0.any (lk_agn a))) ∧ Below W.heap.size W w') :=
    ⟨fun W hW => lk_hasf (lk_agn a) 64 #[.agg #[.int .i64 a.f0, .int .i64 a.f1, .int .i64 a.f2]] #[] (enters_own Try.func64 (by kernel_rfl) rfl) A0 c0 l0 W (Kd.C_below HR0.out hW) (fun W' x cs hx hb hK => by
      obtain ⟨_, _, rfl, rfl, _, _, rfl, rfl, rfl⟩ := hK
      refine (lk_against a x W').mono ?_
      rintro e w' ⟨rfl, hb'⟩
      exact ⟨rfl, below_step hb hb'⟩)⟩
  have H2 : Aside0 (∀ (W : World) (gb : Nat), Below w.heap.size w W → W.cell? ⟨gb, 0, none⟩ = some (.int .i64 a.f0) → W.cell? ⟨gb, 1, none⟩ = some (.int .i64 a.f1) → W.cell? ⟨gb, 2, none⟩ = some (.int .i64 a.f2) → Calls Try.prog 62 #[.slice A2 l2.length c2, .func (.func 101) #[] #[.pointer (some ⟨gb, 0, none⟩)]] W fun e w' => e = .returned (.bool (l2.any (lk_ahead a))) ∧ Below W.heap.size W w') :=
    ⟨fun W gb hW h0 h1 h2 => has62.calls (lk_ahead a) 101 #[.pointer (some ⟨gb, 0, none⟩)] (enters_own Try.func101 (by kernel_rfl) rfl) A2 c2 l2 W (Kd.C_below HR2.out hW) (fun W' x cs hx hb hK => lk_each_ahead W W' gb a x cs h0 h1 h2 hb hK)⟩
  obtain ⟨y, hy⟩ : ∃ y, l0.any (lk_agn a) = y := ⟨_, rfl⟩
  obtain ⟨z, hz⟩ : ∃ z, l2.any (lk_ahead a) = z := ⟨_, rfl⟩
  have HV : Aside0 (lk_free l0 a l2 = (!y && !z)) := ⟨by unfold lk_free; rw [hy, hz]⟩
  rw [hy] at H1
  rw [hz] at H2
  clear hy hz
  cases y with
  | true =>
    go_enter Try.func68, Try.ntmps68
    go_wp2_with (first | ((with_reducible refine gate_dst (N := 3) rfl ?_); refine box_event ?hg (N := 3) ?hd (cs := #[.slice A0 l0.length c0, .slice A1 l1.length c1]) (t := 53) ?hr ?_; (case hd => rfl); (case hg => rfl); (case hr => first | (go_simp; done) | (go_simp; rfl)); intro gl hg w1 hbox hb1; have hcgl_0 : w1.cell? ⟨gl, 0, none⟩ = some (.slice A0 l0.length c0) := (blk_cell hbox 0).trans rfl; have hcgl_1 : w1.cell? ⟨gl, 1, none⟩ = some (.slice A1 l1.length c1) := (blk_cell hbox 1).trans rfl; have HBw1 := Aside0.mk hb1; clear hbox hb1 hg) | ((with_reducible refine gate_dst (N := 4) rfl ?_); refine box_event ?hg (N := 4) ?hd (cs := #[.int .i64 a.f0, .int .i64 a.f1, .int .i64 a.f2]) (t := 61) ?hr ?_; (case hd => rfl); (case hg => rfl); (case hr => first | (go_simp; done) | (go_simp; rfl)); intro gb hg w2 hbox hb1; have hcgb_0 : w2.cell? ⟨gb, 0, none⟩ = some (.int .i64 a.f0) := (blk_cell hbox 0).trans rfl; have hcgb_1 : w2.cell? ⟨gb, 1, none⟩ = some (.int .i64 a.f1) := (blk_cell hbox 1).trans rfl; have hcgb_2 : w2.cell? ⟨gb, 2, none⟩ = some (.int .i64 a.f2) := (blk_cell hbox 2).trans rfl; have HBw2 := Aside0.mk hb1; replace hcgl_0 := pw_cell_below HBw2.out hcgl_0; replace hcgl_1 := pw_cell_below HBw2.out hcgl_1; clear hbox hb1 hg) | (go_at_call 62; (with_reducible refine (H1.out _ (below_step HBw1.out HBw2.out)).mono ?_); rintro e w3 ⟨rfl, hb3⟩; have HBw3 := Aside0.mk hb3; replace hcgb_0 := pw_cell_below hb3 hcgb_0; replace hcgb_1 := pw_cell_below hb3 hcgb_1; replace hcgb_2 := pw_cell_below hb3 hcgb_2; clear hb3))
    go_ret
    exact ⟨by rw [HV.out]; rfl, below_step (below_step HBw1.out HBw2.out) HBw3.out⟩
  | false =>
    cases z with
    | true =>
      go_enter Try.func68, Try.ntmps68
      go_wp2_with (first | ((with_reducible refine gate_dst (N := 3) rfl ?_); refine box_event ?hg (N := 3) ?hd (cs := #[.slice A0 l0.length c0, .slice A1 l1.length c1]) (t := 53) ?hr ?_; (case hd => rfl); (case hg => rfl); (case hr => first | (go_simp; done) | (go_simp; rfl)); intro gl hg w1 hbox hb1; have hcgl_0 : w1.cell? ⟨gl, 0, none⟩ = some (.slice A0 l0.length c0) := (blk_cell hbox 0).trans rfl; have hcgl_1 : w1.cell? ⟨gl, 1, none⟩ = some (.slice A1 l1.length c1) := (blk_cell hbox 1).trans rfl; have HBw1 := Aside0.mk hb1; clear hbox hb1 hg) | ((with_reducible refine gate_dst (N := 4) rfl ?_); refine box_event ?hg (N := 4) ?hd (cs := #[.int .i64 a.f0, .int .i64 a.f1, .int .i64 a.f2]) (t := 61) ?hr ?_; (case hd => rfl); (case hg => rfl); (case hr => first | (go_simp; done) | (go_simp; rfl)); intro gb hg w2 hbox hb1; have hcgb_0 : w2.cell? ⟨gb, 0, none⟩ = some (.int .i64 a.f0) := (blk_cell hbox 0).trans rfl; have hcgb_1 : w2.cell? ⟨gb, 1, none⟩ = some (.int .i64 a.f1) := (blk_cell hbox 1).trans rfl; have hcgb_2 : w2.cell? ⟨gb, 2, none⟩ = some (.int .i64 a.f2) := (blk_cell hbox 2).trans rfl; have HBw2 := Aside0.mk hb1; replace hcgl_0 := pw_cell_below HBw2.out hcgl_0; replace hcgl_1 := pw_cell_below HBw2.out hcgl_1; clear hbox hb1 hg) | (go_at_call 62; (with_reducible refine (H1.out _ (below_step HBw1.out HBw2.out)).mono ?_); rintro e w3 ⟨rfl, hb3⟩; have HBw3 := Aside0.mk hb3; replace hcgb_0 := pw_cell_below hb3 hcgb_0; replace hcgb_1 := pw_cell_below hb3 hcgb_1; replace hcgb_2 := pw_cell_below hb3 hcgb_2; clear hb3) | (go_at_call 62; (with_reducible refine (H2.out _ gb (below_step (below_step HBw1.out HBw2.out) HBw3.out) hcgb_0 hcgb_1 hcgb_2).mono ?_); rintro e w4 ⟨rfl, hb4⟩; have HBw4 := Aside0.mk hb4; clear hb4))
      go_ret
      exact ⟨by rw [HV.out]; rfl, below_step (below_step (below_step HBw1.out HBw2.out) HBw3.out) HBw4.out⟩
    | false =>
      go_enter Try.func68, Try.ntmps68
      go_wp2_with (first | ((with_reducible refine gate_dst (N := 3) rfl ?_); refine box_event ?hg (N := 3) ?hd (cs := #[.slice A0 l0.length c0, .slice A1 l1.length c1]) (t := 53) ?hr ?_; (case hd => rfl); (case hg => rfl); (case hr => first | (go_simp; done) | (go_simp; rfl)); intro gl hg w1 hbox hb1; have hcgl_0 : w1.cell? ⟨gl, 0, none⟩ = some (.slice A0 l0.length c0) := (blk_cell hbox 0).trans rfl; have hcgl_1 : w1.cell? ⟨gl, 1, none⟩ = some (.slice A1 l1.length c1) := (blk_cell hbox 1).trans rfl; have HBw1 := Aside0.mk hb1; clear hbox hb1 hg) | ((with_reducible refine gate_dst (N := 4) rfl ?_); refine box_event ?hg (N := 4) ?hd (cs := #[.int .i64 a.f0, .int .i64 a.f1, .int .i64 a.f2]) (t := 61) ?hr ?_; (case hd => rfl); (case hg => rfl); (case hr => first | (go_simp; done) | (go_simp; rfl)); intro gb hg w2 hbox hb1; have hcgb_0 : w2.cell? ⟨gb, 0, none⟩ = some (.int .i64 a.f0) := (blk_cell hbox 0).trans rfl; have hcgb_1 : w2.cell? ⟨gb, 1, none⟩ = some (.int .i64 a.f1) := (blk_cell hbox 1).trans rfl; have hcgb_2 : w2.cell? ⟨gb, 2, none⟩ = some (.int .i64 a.f2) := (blk_cell hbox 2).trans rfl; have HBw2 := Aside0.mk hb1; replace hcgl_0 := pw_cell_below HBw2.out hcgl_0; replace hcgl_1 := pw_cell_below HBw2.out hcgl_1; clear hbox hb1 hg) | (go_at_call 62; (with_reducible refine (H1.out _ (below_step HBw1.out HBw2.out)).mono ?_); rintro e w3 ⟨rfl, hb3⟩; have HBw3 := Aside0.mk hb3; replace hcgb_0 := pw_cell_below hb3 hcgb_0; replace hcgb_1 := pw_cell_below hb3 hcgb_1; replace hcgb_2 := pw_cell_below hb3 hcgb_2; clear hb3) | (go_at_call 62; (with_reducible refine (H2.out _ gb (below_step (below_step HBw1.out HBw2.out) HBw3.out) hcgb_0 hcgb_1 hcgb_2).mono ?_); rintro e w4 ⟨rfl, hb4⟩; have HBw4 := Aside0.mk hb4; clear hb4))
      go_ret
      exact ⟨by rw [HV.out]; rfl, below_step (below_step (below_step HBw1.out HBw2.out) HBw3.out) HBw4.out⟩
def lk_T10 : Bool × List (List Nat × List Nat) := (true, [([], []), ([0], [0]), ([1], [1]), ([2, 1], [2]), ([3], [3]), ([4, 3], [3, 4]), ([3], [3]), ([5, 6, 3], [3, 5, 6]), ([3], [3]), ([7, 8, 3, 3], [3, 7, 8]), ([3, 9], [3, 9]), ([10, 9], [10]), ([11], [11]), ([12, 11], [11, 12]), ([11], [11]), ([13, 14, 11, 11], [11, 13, 14]), ([11, 15], [11, 15]), ([16, 15], [16]), ([17], [17]), ([17], [17]), ([17], [17]), ([20, 17], [17, 20]), ([17], [17]), ([21, 22, 17], [17, 21, 22]), ([18, 19, 23, 17, 17], [17, 18, 19, 23]), ([17, 24], [17, 24])])
def lk_B10 : List Nat := [0, 1, 3, 7, 15, 31, 15, 127, 15, 511, 1023, 2047, 4095, 8191, 4095, 32767, 65535, 131071, 262143, 262143, 262143, 1310719, 262143, 7602175, 16777215, 33554431]
theorem lk_tab10 : rtab .any (opsOf Try.f27 10) = lk_T10 := by kernel_rfl
theorem lk_bits10 : waitsOk lk_T10.2 lk_B10 = true := by kernel_rfl
theorem lk_betw (c lo hi : Int) : impl_between.f c lo hi = some (decide (lo ≤ c ∧ c ≤ hi)) := by
  unfold impl_between.f
  by_cases h : c ≥ lo
  · rw [if_pos h]
    by_cases g : c ≤ hi
    · rw [decide_eq_true g, decide_eq_true ⟨h, g⟩]
    · rw [decide_eq_false g, decide_eq_false (fun h' => g h'.2)]
  · rw [if_neg h, decide_eq_false (fun h' => h h'.1)]
theorem lk_ok_eq (a : LA) : impl_Ask_ok.f a.f0 a.f1 a.f2 = some (lk_ok a) := by
  unfold impl_Ask_ok.f impl_keyOk.f lk_ok
  simp only [lk_betw, Option.bind_some]
  by_cases h0 : 0 ≤ a.f0 ∧ a.f0 ≤ 3
  · rw [decide_eq_true h0, if_pos rfl, Bool.true_and]
    by_cases h1 : 0 ≤ a.f1 ∧ a.f1 ≤ 4
    · rw [decide_eq_true h1, if_pos rfl, Bool.true_and]
    · rw [decide_eq_false h1, if_neg (by decide), Bool.false_and]
  · rw [decide_eq_false h0, if_neg (by decide), Bool.false_and]
theorem lk_no0 (l0 l1 : List LA) (k : Nat) (h : k < l0.length) (hf : lk_heldAt l0 k = false) : lk_all l0 l1 = false := by
  unfold lk_all
  rw [show (List.range l0.length).all (lk_heldAt l0) = false from List.all_eq_false.2 ⟨k, List.mem_range.2 h, by rw [hf]; decide⟩, Bool.false_and]
theorem lk_no1 (l0 l1 : List LA) (k : Nat) (h : k < l1.length) (hf : lk_queueAt l0 l1 k = false) : lk_all l0 l1 = false := by
  unfold lk_all
  rw [show (List.range l1.length).all (lk_queueAt l0 l1) = false from List.all_eq_false.2 ⟨k, List.mem_range.2 h, by rw [hf]; decide⟩, Bool.and_false]
theorem lk_yes (l0 l1 : List LA) (h0 : ∀ j, j < l0.length → lk_heldAt l0 j = true) (h1 : ∀ j, j < l1.length → lk_queueAt l0 l1 j = true) : lk_all l0 l1 = true := by
  unfold lk_all
  rw [List.all_eq_true.2 (fun j hj => h0 j (List.mem_range.1 hj)), List.all_eq_true.2 (fun j hj => h1 j (List.mem_range.1 hj))]
  rfl
theorem lk_keep {W w2 : World} {p q r s t : Addr} {x y z u v : Value} (hb : Below W.heap.size W w2) (h : W.cell? p = some x ∧ W.cell? q = some y ∧ W.cell? r = some z ∧ W.cell? s = some u ∧ W.cell? t = some v) : w2.cell? p = some x ∧ w2.cell? q = some y ∧ w2.cell? r = some z ∧ w2.cell? s = some u ∧ w2.cell? t = some v :=
  ⟨pw_cell_below hb h.1, pw_cell_below hb h.2.1, pw_cell_below hb h.2.2.1, pw_cell_below hb h.2.2.2.1, pw_cell_below hb h.2.2.2.2⟩
theorem lk_start {W : World} {p q : Addr} {x y u v z : Value} {t : TypeId} (h0 : W.cell? p = some x) (h1 : W.cell? q = some y) : (W.alloc (.cells #[u, v, z] t)).cell? p = some x ∧ (W.alloc (.cells #[u, v, z] t)).cell? q = some y ∧ (W.alloc (.cells #[u, v, z] t)).cell? ⟨W.heap.size, 0, none⟩ = some u ∧ (W.alloc (.cells #[u, v, z] t)).cell? ⟨W.heap.size, 1, none⟩ = some v ∧ (W.alloc (.cells #[u, v, z] t)).cell? ⟨W.heap.size, 2, none⟩ = some z :=
  ⟨pw_cell_below (below_alloc (Below.refl _ _) _) h0, pw_cell_below (below_alloc (Below.refl _ _) _) h1, (blk_cell (heap_alloc_new _ _) 0).trans rfl, (blk_cell (heap_alloc_new _ _) 1).trans rfl, (blk_cell (heap_alloc_new _ _) 2).trans rfl⟩
theorem lk_any_dup (A0 : Option Addr) (c0 : Nat) (l0 : List LA) (kk : Nat) (hk : kk ≤ l0.length) (a : LA) (W : World) (gb : Nat) (hr : Kd.C k61 W A0 l0.length l0) (h0 : W.cell? ⟨gb, 0, none⟩ = some (.int .i64 a.f0)) (h1 : W.cell? ⟨gb, 1, none⟩ = some (.int .i64 a.f1)) (h2 : W.cell? ⟨gb, 2, none⟩ = some (.int .i64 a.f2)) :
    Calls Try.prog 62 #[.slice A0 kk c0, .func (.func 63) #[] #[.pointer (some ⟨gb, 0, none⟩)]] W fun e w' => e = .returned (.bool ((l0.take kk).any (lk_dup a))) ∧ Below W.heap.size W w' := by
  have h := has62.calls (lk_dup a) 63 #[.pointer (some ⟨gb, 0, none⟩)] (enters_own Try.func63 (by kernel_rfl) rfl) A0 c0 (l0.take kk) W (Kd.C_take hr hk) (fun W' x cs hx hb hK => lk_each_dup W W' gb a x cs h0 h1 h2 hb hK)
  rw [List.length_take, Nat.min_eq_left hk] at h
  exact h
theorem lk_any_who (A0 : Option Addr) (c0 : Nat) (l0 : List LA) (kk : Nat) (hk : kk ≤ l0.length) (a : LA) (W : World) (gb : Nat) (hr : Kd.C k61 W A0 l0.length l0) (h0 : W.cell? ⟨gb, 0, none⟩ = some (.int .i64 a.f0)) (h1 : W.cell? ⟨gb, 1, none⟩ = some (.int .i64 a.f1)) (h2 : W.cell? ⟨gb, 2, none⟩ = some (.int .i64 a.f2)) :
    Calls Try.prog 62 #[.slice A0 kk c0, .func (.func 65) #[] #[.pointer (some ⟨gb, 0, none⟩)]] W fun e w' => e = .returned (.bool ((l0.take kk).any (lk_who a))) ∧ Below W.heap.size W w' := by
  have h := has62.calls (lk_who a) 65 #[.pointer (some ⟨gb, 0, none⟩)] (enters_own Try.func65 (by kernel_rfl) rfl) A0 c0 (l0.take kk) W (Kd.C_take hr hk) (fun W' x cs hx hb hK => lk_each_who W W' gb a x cs h0 h1 h2 hb hK)
  rw [List.length_take, Nat.min_eq_left hk] at h
  exact h
theorem lk_any_cov (A0 : Option Addr) (c0 : Nat) (l0 : List LA) (kk : Nat) (hk : kk ≤ l0.length) (a : LA) (W : World) (gb : Nat) (hr : Kd.C k61 W A0 l0.length l0) (h0 : W.cell? ⟨gb, 0, none⟩ = some (.int .i64 a.f0)) (h1 : W.cell? ⟨gb, 1, none⟩ = some (.int .i64 a.f1)) (h2 : W.cell? ⟨gb, 2, none⟩ = some (.int .i64 a.f2)) :
    Calls Try.prog 62 #[.slice A0 kk c0, .func (.func 66) #[] #[.pointer (some ⟨gb, 0, none⟩)]] W fun e w' => e = .returned (.bool ((l0.take kk).any (fun b => lk_cov b a))) ∧ Below W.heap.size W w' := by
  have h := has62.calls (fun b => lk_cov b a) 66 #[.pointer (some ⟨gb, 0, none⟩)] (enters_own Try.func66 (by kernel_rfl) rfl) A0 c0 (l0.take kk) W (Kd.C_take hr hk) (fun W' x cs hx hb hK => lk_each_cov W W' gb a x cs h0 h1 h2 hb hK)
  rw [List.length_take, Nat.min_eq_left hk] at h
  exact h
set_option maxHeartbeats 8000000 in
set_option maxRecDepth 100000 in
theorem lk_LocksOk (A0 : Option Addr) (c0 : Nat) (l0 : List LA) (A1 : Option Addr) (c1 : Nat) (l1 : List LA) (w : World) (hr0 : Kd.C k61 w A0 l0.length l0) (hc0 : l0.length ≤ c0) (hr1 : Kd.C k61 w A1 l1.length l1) (hc1 : l1.length ≤ c1) :
    Calls Try.prog 27 #[.agg #[.slice A0 l0.length c0, .slice A1 l1.length c1]] w fun e w' => e = .returned (.bool (lk_all l0 l1)) ∧ Below w.heap.size w w' := by
  have hu61 := Try.underlying61
  have hu53 := Try.underlying53
  have hu51 := Try.underlying51
  have HR0 := Aside0.mk hr0
  have HR1 := Aside0.mk hr1
  have HC0 := Aside0.mk hc0
  have HC1 := Aside0.mk hc1
  have hbig0 : l0.length ≤ 9223372036854775807 := hr0.2.1
  have hbig1 : l1.length ≤ 9223372036854775807 := hr1.2.1
  clear hr0 hr1 hc0 hc1
  obtain ⟨n0, hn0⟩ : ∃ n, l0.length = n := ⟨_, rfl⟩
  obtain ⟨n1, hn1⟩ : ∃ n, l1.length = n := ⟨_, rfl⟩
  rw [hn0] at HC0 hbig0 ⊢
  rw [hn1] at HC1 hbig1 ⊢
  have HN0 := Aside0.mk hn0
  have HN1 := Aside0.mk hn1
  clear hn0 hn1
  go_enter Try.func27, Try.ntmps27
  go_wp2_with (first | ((with_reducible refine gate_dst (N := 1) rfl ?_); refine box_event ?hg (N := 1) ?hd (cs := #[.slice A0 n0 c0, .slice A1 n1 c1]) (t := 53) ?hr ?_; (case hd => rfl); (case hg => rfl); (case hr => first | (go_simp; done) | (go_simp; rfl)); intro gl hg w1 hbox hb1; have hcgl_0 : w1.cell? ⟨gl, 0, none⟩ = some (.slice A0 n0 c0) := (blk_cell hbox 0).trans rfl; have hcgl_1 : w1.cell? ⟨gl, 1, none⟩ = some (.slice A1 n1 c1) := (blk_cell hbox 1).trans rfl; have HBw1 := Aside0.mk hb1; clear hbox hb1 hg))
  have HG0 := Aside0.mk hcgl_0
  have HG1 := Aside0.mk hcgl_1
  go_loopg [3, 4, 10] n0 (fun gg _ _ s10 wr => ∃ kk : Nat, kk ≤ n0 ∧ n0 - kk ≤ gg ∧ s10 = .int .i64 kk ∧ Aside0 (Below w1.heap.size w1 wr) ∧ Aside0 (∀ j, j < kk → lk_heldAt l0 j = true))
  case atStart => exact ⟨0, Nat.zero_le _, by omega, rfl, ⟨Below.refl _ _⟩, ⟨fun j hj => absurd hj (Nat.not_lt_zero _)⟩⟩
  case round =>
    obtain ⟨kk, hkk, hg, rfl, BW, AL⟩ := hrel
    clear hcgl_0 hcgl_1
    have hcgl_0 := pw_cell_below BW.out HG0.out
    have hcgl_1 := pw_cell_below BW.out HG1.out
    by_cases hlt : kk < n0
    · have hltz : decide ((kk : Int) < (n0 : Int)) = true := decide_eq_true (by omega)
      have hkl : kk ≤ l0.length := by rw [HN0.out]; omega
      obtain ⟨ad, e0, hx0, hx1, hx2⟩ := at_T61 (Kd.C_below HR0.out (below_step HBw1.out BW.out)) (kk : Int) (by omega) (by rw [HN0.out]; omega)
      subst e0
      rw [Int.toNat_natCast] at hx0 hx1 hx2
      obtain ⟨a, ha⟩ : ∃ a, rd_T61 l0 (kk : Int) = a := ⟨_, rfl⟩
      rw [ha] at hx0 hx1 hx2
      have ha' : l0.getD kk z61 = a := ha
      have o1 : (0 : Int) ≤ (kk : Int) := by omega
      have o2 : (kk : Int) < (n0 : Int) := by omega
      have o3 : (kk : Int) ≤ (c0 : Int) := by have := HC0.out; omega
      have HAT : Aside0 (lk_heldAt l0 kk = (lk_ok a && !((l0.take kk).any (lk_dup a)))) := ⟨by unfold lk_heldAt; rw [ha']⟩
      have HKL := Aside0.mk hkl
      have HLT : Aside0 (kk < l0.length) := ⟨by rw [HN0.out]; exact hlt⟩
      have HOK := Aside0.mk (lk_ok_eq a)
      have HWR := Aside0.mk (below_step HBw1.out BW.out)
      obtain ⟨y, hy⟩ : ∃ y, lk_ok a = y := ⟨_, rfl⟩
      rw [hy] at HAT HOK
      clear ha ha' hy hkl
      cases y with
      | false =>
        go_wp2_with (first | (go_at_call 61; (with_reducible refine (impl_Ask_ok.calls a.f0 a.f1 a.f2 false _ HOK.out).mono ?_); rintro e w2 ⟨rfl, hb2⟩; have HBw2 := Aside0.mk hb2; clear hb2))
        go_ret
        exact ⟨by rw [lk_no0 l0 l1 kk HLT.out (by rw [HAT.out]; rfl)]; rfl, below_step (below_alloc HWR.out _) HBw2.out⟩
      | true =>
        obtain ⟨z, hz⟩ : ∃ z, (l0.take kk).any (lk_dup a) = z := ⟨_, rfl⟩
        have HD : Aside0 (∀ (W : World) (gb : Nat), Below w.heap.size w W → W.cell? ⟨gb, 0, none⟩ = some (.int .i64 a.f0) → W.cell? ⟨gb, 1, none⟩ = some (.int .i64 a.f1) → W.cell? ⟨gb, 2, none⟩ = some (.int .i64 a.f2) → Calls Try.prog 62 #[.slice (some ad) kk c0, .func (.func 63) #[] #[.pointer (some ⟨gb, 0, none⟩)]] W fun e w' => e = .returned (.bool z) ∧ Below W.heap.size W w') := ⟨fun W gb hW h0 h1 h2 => by rw [← hz]; exact lk_any_dup (some ad) c0 l0 kk HKL.out a W gb (Kd.C_below HR0.out hW) h0 h1 h2⟩
        rw [hz] at HAT
        clear hz
        cases z with
        | true =>
          go_wp2_with (first | (go_at_call 61; (with_reducible refine (impl_Ask_ok.calls a.f0 a.f1 a.f2 true _ HOK.out).mono ?_); rintro e w2 ⟨rfl, hb2⟩; have HBw2 := Aside0.mk hb2; replace hcgl_0 := pw_cell_below (below_step (below_alloc (Below.refl _ _) _) hb2) hcgl_0; replace hcgl_1 := pw_cell_below (below_step (below_alloc (Below.refl _ _) _) hb2) hcgl_1; have hv0 : w2.cell? ⟨wr.heap.size, 0, none⟩ = some (.int .i64 a.f0) := (blk_cell (blk_below (heap_alloc_new wr (.cells #[.int .i64 a.f0, .int .i64 a.f1, .int .i64 a.f2] 61)) hb2) 0).trans rfl; have hv1 : w2.cell? ⟨wr.heap.size, 1, none⟩ = some (.int .i64 a.f1) := (blk_cell (blk_below (heap_alloc_new wr (.cells #[.int .i64 a.f0, .int .i64 a.f1, .int .i64 a.f2] 61)) hb2) 1).trans rfl; have hv2 : w2.cell? ⟨wr.heap.size, 2, none⟩ = some (.int .i64 a.f2) := (blk_cell (blk_below (heap_alloc_new wr (.cells #[.int .i64 a.f0, .int .i64 a.f1, .int .i64 a.f2] 61)) hb2) 2).trans rfl; clear hb2) | (go_at_call 62; (with_reducible refine (HD.out _ wr.heap.size (below_step (below_alloc HWR.out _) HBw2.out) hv0 hv1 hv2).mono ?_); rintro e w3 ⟨rfl, hb3⟩; have HBw3 := Aside0.mk hb3; clear hb3))
          go_ret
          exact ⟨by rw [lk_no0 l0 l1 kk HLT.out (by rw [HAT.out]; rfl)]; rfl, below_step (below_step (below_alloc HWR.out _) HBw2.out) HBw3.out⟩
        | false =>
          go_wp2_with (first | (go_at_call 61; (with_reducible refine (impl_Ask_ok.calls a.f0 a.f1 a.f2 true _ HOK.out).mono ?_); rintro e w2 ⟨rfl, hb2⟩; have HBw2 := Aside0.mk hb2; replace hcgl_0 := pw_cell_below (below_step (below_alloc (Below.refl _ _) _) hb2) hcgl_0; replace hcgl_1 := pw_cell_below (below_step (below_alloc (Below.refl _ _) _) hb2) hcgl_1; have hv0 : w2.cell? ⟨wr.heap.size, 0, none⟩ = some (.int .i64 a.f0) := (blk_cell (blk_below (heap_alloc_new wr (.cells #[.int .i64 a.f0, .int .i64 a.f1, .int .i64 a.f2] 61)) hb2) 0).trans rfl; have hv1 : w2.cell? ⟨wr.heap.size, 1, none⟩ = some (.int .i64 a.f1) := (blk_cell (blk_below (heap_alloc_new wr (.cells #[.int .i64 a.f0, .int .i64 a.f1, .int .i64 a.f2] 61)) hb2) 1).trans rfl; have hv2 : w2.cell? ⟨wr.heap.size, 2, none⟩ = some (.int .i64 a.f2) := (blk_cell (blk_below (heap_alloc_new wr (.cells #[.int .i64 a.f0, .int .i64 a.f1, .int .i64 a.f2] 61)) hb2) 2).trans rfl; clear hb2) | (go_at_call 62; (with_reducible refine (HD.out _ wr.heap.size (below_step (below_alloc HWR.out _) HBw2.out) hv0 hv1 hv2).mono ?_); rintro e w3 ⟨rfl, hb3⟩; have HBw3 := Aside0.mk hb3; clear hb3))
          go_roundg (n0 - (kk + 1))
          case measure => omega
          case rel =>
            refine ⟨kk + 1, by omega, by omega, by go_num, ⟨below_step (below_step (below_alloc BW.out _) HBw2.out) HBw3.out⟩, ⟨fun j hj => ?_⟩⟩
            by_cases e : j = kk
            · rw [e, HAT.out]; rfl
            · exact AL.out j (by omega)
    · have hltz : decide ((kk : Int) < (n0 : Int)) = false := decide_eq_false (by omega)
      have HALL : Aside0 (∀ j, j < l0.length → lk_heldAt l0 j = true) := ⟨fun j hj => AL.out j (by rw [HN0.out] at hj; omega)⟩
      have HWR := Aside0.mk (below_step HBw1.out BW.out)
      have HG2 := Aside0.mk hcgl_0
      have HG3 := Aside0.mk hcgl_1
      go_wp2
      go_loopg [5, 6, 30] n1 (fun gg _ _ s30 wq => ∃ jj : Nat, jj ≤ n1 ∧ n1 - jj ≤ gg ∧ s30 = .int .i64 jj ∧ Aside0 (Below wr.heap.size wr wq) ∧ Aside0 (∀ j, j < jj → lk_queueAt l0 l1 j = true))
      case atStart => exact ⟨0, Nat.zero_le _, by omega, rfl, ⟨Below.refl _ _⟩, ⟨fun j hj => absurd hj (Nat.not_lt_zero _)⟩⟩
      case round =>
        rename_i wq_
        obtain ⟨jj, hjj, hg2, rfl, BW2, AL2⟩ := hrel
        clear hcgl_0 hcgl_1
        have hcgl_0 := pw_cell_below BW2.out HG2.out
        have hcgl_1 := pw_cell_below BW2.out HG3.out
        by_cases hlt2 : jj < n1
        · have hltz2 : decide ((jj : Int) < (n1 : Int)) = true := decide_eq_true (by omega)
          have hkl : jj ≤ l1.length := by rw [HN1.out]; omega
          obtain ⟨ad, e0, hx0, hx1, hx2⟩ := at_T61 (Kd.C_below HR1.out (below_step HWR.out BW2.out)) (jj : Int) (by omega) (by rw [HN1.out]; omega)
          subst e0
          rw [Int.toNat_natCast] at hx0 hx1 hx2
          obtain ⟨a, ha⟩ : ∃ a, rd_T61 l1 (jj : Int) = a := ⟨_, rfl⟩
          rw [ha] at hx0 hx1 hx2
          have ha' : l1.getD jj z61 = a := ha
          have o1 : (0 : Int) ≤ (jj : Int) := by omega
          have o2 : (jj : Int) < (n1 : Int) := by omega
          have o3 : (jj : Int) ≤ (c1 : Int) := by have := HC1.out; omega
          have HAT : Aside0 (lk_queueAt l0 l1 jj = (lk_ok a && (!((l1.take jj).any (lk_who a)) && (!(l0.any (fun b => lk_cov b a)) && !(lk_free l0 a (l1.take jj)))))) := ⟨by unfold lk_queueAt; rw [ha']⟩
          have HKL := Aside0.mk hkl
          have HLT : Aside0 (jj < l1.length) := ⟨by rw [HN1.out]; exact hlt2⟩
          have HOK := Aside0.mk (lk_ok_eq a)
          obtain ⟨y, hy⟩ : ∃ y, lk_ok a = y := ⟨_, rfl⟩
          rw [hy] at HAT HOK
          clear ha ha' hy hkl
          have HS0 := Aside0.mk (lk_start (u := .int .i64 a.f0) (v := .int .i64 a.f1) (z := .int .i64 a.f2) (t := 61) hcgl_0 hcgl_1)
          have HWQ := Aside0.mk (below_step HWR.out BW2.out)
          cases y with
          | false =>
            go_wp2
            refine start_ (n := 26) (S := (fun w' => w'.cell? ⟨gl, 0, none⟩ = some (.slice A0 n0 c0) ∧ w'.cell? ⟨gl, 1, none⟩ = some (.slice (some ad) n1 c1) ∧ w'.cell? ⟨wr.heap.size, 0, none⟩ = some (.int .i64 a.f0) ∧ w'.cell? ⟨wr.heap.size, 1, none⟩ = some (.int .i64 a.f1) ∧ w'.cell? ⟨wr.heap.size, 2, none⟩ = some (.int .i64 a.f2))) (ds := []) #[false, false, false, false, false, false, false, false, false, false, false, false, false, false, false, false, false, false, false, false, false, false, false, false, false, false] (by kernel_rfl) rfl rfl HS0.out (fun hHeld => ?_); refine with_tabW lk_tab10 lk_bits10 (fun HT_ HW_ => ?_)
            have HBw9 : Aside0 (Below w.heap.size w (wr.alloc (.cells #[.int .i64 a.f0, .int .i64 a.f1, .int .i64 a.f2] 61)).drew) := ⟨below_drew1 (below_alloc HWQ.out _)⟩
            have HQw9 := Aside0.mk (below_drew1 (below_alloc BW2.out (.cells #[.int .i64 a.f0, .int .i64 a.f1, .int .i64 a.f2] 61)))
            generalize (wr.alloc (.cells #[.int .i64 a.f0, .int .i64 a.f1, .int .i64 a.f2] 61)).drew = w9 at hHeld HBw9 HQw9 ⊢
            refine take_ (i := 0) (N := some 35) (v := ?_) (a' := ?_) #[true, false, false, false, false, false, false, false, false, false, false, false, false, false, false, false, false, false, false, false, false, false, false, false, false, false] rfl rfl (take_ofW HT_.out HW_.out (by kernel_rfl)) (fun _ _ _ h => h) (Or.inl ⟨by rfl, ?_⟩) hHeld ?_ ?_
            rotate_left
            · rintro w' ⟨s0, s1, s2, s3, s4⟩
              go_simp
              with_reducible rfl
            rotate_left
            · simp only [Act.put, List.setIfInBounds_toArray, List.set_cons_zero, List.set_cons_succ, i64_w, i32_w]
              rfl
            refine one_ (i := 1) (N := some 36) #[true, true, false, false, false, false, false, false, false, false, false, false, false, false, false, false, false, false, false, false, false, false, false, false, false, false] rfl rfl (one_of HT_.out (by kernel_rfl)) (by decide) (fun K hK => ?_)
            refine goes_ Try.func61 (by kernel_rfl) rfl #[.agg #[.int .i64 a.f0, .int .i64 a.f1, .int .i64 a.f2]] (by rfl) rfl rfl (by (try simp only [List.map_toArray, List.map_cons, List.map_nil]); first | done | rfl) ?_
            with_reducible refine (impl_Ask_ok.calls a.f0 a.f1 a.f2 false _ HOK.out).mono ?_
            rintro e w10 ⟨rfl, hb⟩
            refine ⟨_, rfl, ?_⟩
            have HBw10 := Aside0.mk (below_step HBw9.out hb)
            have HQw10 := Aside0.mk (below_step HQw9.out hb)
            have n_ := lk_keep hb hHeld
            clear hHeld
            refine hK.out _ _ n_ (fun hHeld => ?_)
            clear n_ hb
            clear hK K
            refine norm_ (a' := ?_) ?_ ?_
            rotate_left
            · show Act.put _ (some 36) _ = _
              simp only [Act.put, List.setIfInBounds_toArray, List.set_cons_zero, List.set_cons_succ, i64_w, i32_w]
              rfl
            refine pure_ (i := 2) (N := some 37) (v := ?_) (a' := ?_) #[true, true, true, false, false, false, false, false, false, false, false, false, false, false, false, false, false, false, false, false, false, false, false, false, false, false] rfl rfl (any_of HT_.out (by kernel_rfl)) (fun _ _ _ h => h) (Or.inl ⟨by rfl, ?_⟩) ?_ ?_
            rotate_left
            · intro w'
              go_simp
              with_reducible rfl
            rotate_left
            · simp only [Act.put, List.setIfInBounds_toArray, List.set_cons_zero, List.set_cons_succ, i64_w, i32_w]
              rfl
            refine pure_ (i := 3) (N := some 38) (v := ?_) (a' := ?_) #[true, true, true, true, false, false, false, false, false, false, false, false, false, false, false, false, false, false, false, false, false, false, false, false, false, false] rfl rfl (any_of HT_.out (by kernel_rfl)) (fun _ _ _ h => h) (Or.inl ⟨by rfl, ?_⟩) ?_ ?_
            rotate_left
            · intro w'
              go_simp
              with_reducible rfl
            rotate_left
            · simp only [Act.put, List.setIfInBounds_toArray, List.set_cons_zero, List.set_cons_succ, i64_w, i32_w]
              rfl
            refine pure_ (i := 4) (N := some 39) (v := undef) (a' := ?_) #[true, true, true, true, true, false, false, false, false, false, false, false, false, false, false, false, false, false, false, false, false, false, false, false, false, false] rfl rfl (any_of HT_.out (by kernel_rfl)) (fun _ _ _ h => h) (Or.inr ⟨by rfl, rfl⟩) ?_ ?_
            rotate_left
            · simp only [Act.put, List.setIfInBounds_toArray, List.set_cons_zero, List.set_cons_succ, i64_w, i32_w]
              rfl
            refine pure_ (i := 5) (N := some 40) (v := undef) (a' := ?_) #[true, true, true, true, true, true, false, false, false, false, false, false, false, false, false, false, false, false, false, false, false, false, false, false, false, false] rfl rfl (any_of HT_.out (by kernel_rfl)) (fun _ _ _ h => h) (Or.inr ⟨by rfl, rfl⟩) ?_ ?_
            rotate_left
            · simp only [Act.put, List.setIfInBounds_toArray, List.set_cons_zero, List.set_cons_succ, i64_w, i32_w]
              rfl
            refine pure_ (i := 6) (N := some 41) (v := undef) (a' := ?_) #[true, true, true, true, true, true, true, false, false, false, false, false, false, false, false, false, false, false, false, false, false, false, false, false, false, false] rfl rfl (any_of HT_.out (by kernel_rfl)) (fun _ _ _ h => h) (Or.inr ⟨by rfl, rfl⟩) ?_ ?_
            rotate_left
            · simp only [Act.put, List.setIfInBounds_toArray, List.set_cons_zero, List.set_cons_succ, i64_w, i32_w]
              rfl
            refine pure_ (i := 7) (N := some 42) (v := undef) (a' := ?_) #[true, true, true, true, true, true, true, true, false, false, false, false, false, false, false, false, false, false, false, false, false, false, false, false, false, false] rfl rfl (any_of HT_.out (by kernel_rfl)) (fun _ _ _ h => h) (Or.inr ⟨by rfl, rfl⟩) ?_ ?_
            rotate_left
            · simp only [Act.put, List.setIfInBounds_toArray, List.set_cons_zero, List.set_cons_succ, i64_w, i32_w]
              rfl
            refine pure_ (i := 8) (N := some 43) (v := undef) (a' := ?_) #[true, true, true, true, true, true, true, true, true, false, false, false, false, false, false, false, false, false, false, false, false, false, false, false, false, false] rfl rfl (any_of HT_.out (by kernel_rfl)) (fun _ _ _ h => h) (Or.inr ⟨by rfl, rfl⟩) ?_ ?_
            rotate_left
            · simp only [Act.put, List.setIfInBounds_toArray, List.set_cons_zero, List.set_cons_succ, i64_w, i32_w]
              rfl
            refine pure_ (i := 9) (N := some 44) (v := undef) (a' := ?_) #[true, true, true, true, true, true, true, true, true, true, false, false, false, false, false, false, false, false, false, false, false, false, false, false, false, false] rfl rfl (any_of HT_.out (by kernel_rfl)) (fun _ _ _ h => h) (Or.inr ⟨by rfl, rfl⟩) ?_ ?_
            rotate_left
            · simp only [Act.put, List.setIfInBounds_toArray, List.set_cons_zero, List.set_cons_succ, i64_w, i32_w]
              rfl
            refine pure_ (i := 10) (N := some 45) (v := ?_) (a' := ?_) #[true, true, true, true, true, true, true, true, true, true, true, false, false, false, false, false, false, false, false, false, false, false, false, false, false, false] rfl rfl (any_of HT_.out (by kernel_rfl)) (fun _ _ _ h => h) (Or.inl ⟨by rfl, ?_⟩) ?_ ?_
            rotate_left
            · intro w'
              go_simp
              with_reducible rfl
            rotate_left
            · simp only [Act.put, List.setIfInBounds_toArray, List.set_cons_zero, List.set_cons_succ, i64_w, i32_w]
              rfl
            refine pure_ (i := 11) (N := some 46) (v := ?_) (a' := ?_) #[true, true, true, true, true, true, true, true, true, true, true, true, false, false, false, false, false, false, false, false, false, false, false, false, false, false] rfl rfl (any_of HT_.out (by kernel_rfl)) (fun _ _ _ h => h) (Or.inl ⟨by rfl, ?_⟩) ?_ ?_
            rotate_left
            · intro w'
              go_simp
              with_reducible rfl
            rotate_left
            · simp only [Act.put, List.setIfInBounds_toArray, List.set_cons_zero, List.set_cons_succ, i64_w, i32_w]
              rfl
            refine pure_ (i := 12) (N := some 47) (v := undef) (a' := ?_) #[true, true, true, true, true, true, true, true, true, true, true, true, true, false, false, false, false, false, false, false, false, false, false, false, false, false] rfl rfl (any_of HT_.out (by kernel_rfl)) (fun _ _ _ h => h) (Or.inr ⟨by rfl, rfl⟩) ?_ ?_
            rotate_left
            · simp only [Act.put, List.setIfInBounds_toArray, List.set_cons_zero, List.set_cons_succ, i64_w, i32_w]
              rfl
            refine pure_ (i := 13) (N := some 48) (v := undef) (a' := ?_) #[true, true, true, true, true, true, true, true, true, true, true, true, true, true, false, false, false, false, false, false, false, false, false, false, false, false] rfl rfl (any_of HT_.out (by kernel_rfl)) (fun _ _ _ h => h) (Or.inr ⟨by rfl, rfl⟩) ?_ ?_
            rotate_left
            · simp only [Act.put, List.setIfInBounds_toArray, List.set_cons_zero, List.set_cons_succ, i64_w, i32_w]
              rfl
            refine pure_ (i := 14) (N := some 49) (v := undef) (a' := ?_) #[true, true, true, true, true, true, true, true, true, true, true, true, true, true, true, false, false, false, false, false, false, false, false, false, false, false] rfl rfl (any_of HT_.out (by kernel_rfl)) (fun _ _ _ h => h) (Or.inr ⟨by rfl, rfl⟩) ?_ ?_
            rotate_left
            · simp only [Act.put, List.setIfInBounds_toArray, List.set_cons_zero, List.set_cons_succ, i64_w, i32_w]
              rfl
            refine pure_ (i := 15) (N := some 50) (v := undef) (a' := ?_) #[true, true, true, true, true, true, true, true, true, true, true, true, true, true, true, true, false, false, false, false, false, false, false, false, false, false] rfl rfl (any_of HT_.out (by kernel_rfl)) (fun _ _ _ h => h) (Or.inr ⟨by rfl, rfl⟩) ?_ ?_
            rotate_left
            · simp only [Act.put, List.setIfInBounds_toArray, List.set_cons_zero, List.set_cons_succ, i64_w, i32_w]
              rfl
            refine pure_ (i := 16) (N := some 51) (v := ?_) (a' := ?_) #[true, true, true, true, true, true, true, true, true, true, true, true, true, true, true, true, true, false, false, false, false, false, false, false, false, false] rfl rfl (any_of HT_.out (by kernel_rfl)) (fun _ _ _ h => h) (Or.inl ⟨by rfl, ?_⟩) ?_ ?_
            rotate_left
            · intro w'
              go_simp
              with_reducible rfl
            rotate_left
            · simp only [Act.put, List.setIfInBounds_toArray, List.set_cons_zero, List.set_cons_succ, i64_w, i32_w]
              rfl
            refine pure_ (i := 17) (N := some 52) (v := ?_) (a' := ?_) #[true, true, true, true, true, true, true, true, true, true, true, true, true, true, true, true, true, true, false, false, false, false, false, false, false, false] rfl rfl (any_of HT_.out (by kernel_rfl)) (fun _ _ _ h => h) (Or.inl ⟨by rfl, ?_⟩) ?_ ?_
            rotate_left
            · intro w'
              go_simp
              with_reducible rfl
            rotate_left
            · simp only [Act.put, List.setIfInBounds_toArray, List.set_cons_zero, List.set_cons_succ, i64_w, i32_w]
              rfl
            refine pure_ (i := 18) (N := some 53) (v := undef) (a' := ?_) #[true, true, true, true, true, true, true, true, true, true, true, true, true, true, true, true, true, true, true, false, false, false, false, false, false, false] rfl rfl (any_of HT_.out (by kernel_rfl)) (fun _ _ _ h => h) (Or.inr ⟨by rfl, rfl⟩) ?_ ?_
            rotate_left
            · simp only [Act.put, List.setIfInBounds_toArray, List.set_cons_zero, List.set_cons_succ, i64_w, i32_w]
              rfl
            refine pure_ (i := 19) (N := some 54) (v := undef) (a' := ?_) #[true, true, true, true, true, true, true, true, true, true, true, true, true, true, true, true, true, true, true, true, false, false, false, false, false, false] rfl rfl (any_of HT_.out (by kernel_rfl)) (fun _ _ _ h => h) (Or.inr ⟨by rfl, rfl⟩) ?_ ?_
            rotate_left
            · simp only [Act.put, List.setIfInBounds_toArray, List.set_cons_zero, List.set_cons_succ, i64_w, i32_w]
              rfl
            refine pure_ (i := 20) (N := some 55) (v := undef) (a' := ?_) #[true, true, true, true, true, true, true, true, true, true, true, true, true, true, true, true, true, true, true, true, true, false, false, false, false, false] rfl rfl (any_of HT_.out (by kernel_rfl)) (fun _ _ _ h => h) (Or.inr ⟨by rfl, rfl⟩) ?_ ?_
            rotate_left
            · simp only [Act.put, List.setIfInBounds_toArray, List.set_cons_zero, List.set_cons_succ, i64_w, i32_w]
              rfl
            refine pure_ (i := 21) (N := some 56) (v := undef) (a' := ?_) #[true, true, true, true, true, true, true, true, true, true, true, true, true, true, true, true, true, true, true, true, true, true, false, false, false, false] rfl rfl (any_of HT_.out (by kernel_rfl)) (fun _ _ _ h => h) (Or.inr ⟨by rfl, rfl⟩) ?_ ?_
            rotate_left
            · simp only [Act.put, List.setIfInBounds_toArray, List.set_cons_zero, List.set_cons_succ, i64_w, i32_w]
              rfl
            refine pure_ (i := 22) (N := some 57) (v := undef) (a' := ?_) #[true, true, true, true, true, true, true, true, true, true, true, true, true, true, true, true, true, true, true, true, true, true, true, false, false, false] rfl rfl (any_of HT_.out (by kernel_rfl)) (fun _ _ _ h => h) (Or.inr ⟨by rfl, rfl⟩) ?_ ?_
            rotate_left
            · simp only [Act.put, List.setIfInBounds_toArray, List.set_cons_zero, List.set_cons_succ, i64_w, i32_w]
              rfl
            refine pure_ (i := 23) (N := some 58) (v := undef) (a' := ?_) #[true, true, true, true, true, true, true, true, true, true, true, true, true, true, true, true, true, true, true, true, true, true, true, true, false, false] rfl rfl (any_of HT_.out (by kernel_rfl)) (fun _ _ _ h => h) (Or.inr ⟨by rfl, rfl⟩) ?_ ?_
            rotate_left
            · simp only [Act.put, List.setIfInBounds_toArray, List.set_cons_zero, List.set_cons_succ, i64_w, i32_w]
              rfl
            refine pure_ (i := 24) (N := some 59) (v := undef) (a' := ?_) #[true, true, true, true, true, true, true, true, true, true, true, true, true, true, true, true, true, true, true, true, true, true, true, true, true, false] rfl rfl (any_of HT_.out (by kernel_rfl)) (fun _ _ _ h => h) (Or.inr ⟨by rfl, rfl⟩) ?_ ?_
            rotate_left
            · simp only [Act.put, List.setIfInBounds_toArray, List.set_cons_zero, List.set_cons_succ, i64_w, i32_w]
              rfl
            refine pure_ (i := 25) (N := some 60) (v := ?_) (a' := ?_) #[true, true, true, true, true, true, true, true, true, true, true, true, true, true, true, true, true, true, true, true, true, true, true, true, true, true] rfl rfl (any_of HT_.out (by kernel_rfl)) (fun _ _ _ h => h) (Or.inl ⟨by rfl, ?_⟩) ?_ ?_
            rotate_left
            · intro w'
              go_simp
              with_reducible rfl
            rotate_left
            · simp only [Act.put, List.setIfInBounds_toArray, List.set_cons_zero, List.set_cons_succ, i64_w, i32_w]
              rfl
            refine done_ (done_of HT_.out (by kernel_rfl)) ?_
            go_wp2
            go_ret
            exact ⟨by rw [lk_no1 l0 l1 jj HLT.out (by rw [HAT.out]; rfl)]; rfl, HBw10.out⟩
          | true =>
            obtain ⟨z1, hz1⟩ : ∃ z, (l1.take jj).any (lk_who a) = z := ⟨_, rfl⟩
            obtain ⟨z2, hz2⟩ : ∃ z, l0.any (fun b => lk_cov b a) = z := ⟨_, rfl⟩
            obtain ⟨z3, hz3⟩ : ∃ z, lk_free l0 a (l1.take jj) = z := ⟨_, rfl⟩
            have HD1 : Aside0 (∀ (W : World) (gb : Nat), Below w.heap.size w W → W.cell? ⟨gb, 0, none⟩ = some (.int .i64 a.f0) → W.cell? ⟨gb, 1, none⟩ = some (.int .i64 a.f1) → W.cell? ⟨gb, 2, none⟩ = some (.int .i64 a.f2) → Calls Try.prog 62 #[.slice (some ad) jj c1, .func (.func 65) #[] #[.pointer (some ⟨gb, 0, none⟩)]] W fun e w' => e = .returned (.bool z1) ∧ Below W.heap.size W w') := ⟨fun W gb hW h0 h1 h2 => by rw [← hz1]; exact lk_any_who (some ad) c1 l1 jj HKL.out a W gb (Kd.C_below HR1.out hW) h0 h1 h2⟩
            have HD2 : Aside0 (∀ (W : World) (gb : Nat), Below w.heap.size w W → W.cell? ⟨gb, 0, none⟩ = some (.int .i64 a.f0) → W.cell? ⟨gb, 1, none⟩ = some (.int .i64 a.f1) → W.cell? ⟨gb, 2, none⟩ = some (.int .i64 a.f2) → Calls Try.prog 62 #[.slice A0 n0 c0, .func (.func 66) #[] #[.pointer (some ⟨gb, 0, none⟩)]] W fun e w' => e = .returned (.bool z2) ∧ Below W.heap.size W w') := ⟨fun W gb hW h0 h1 h2 => by
              have h := lk_any_cov A0 c0 l0 n0 (by rw [HN0.out]; exact Nat.le_refl _) a W gb (Kd.C_below HR0.out hW) h0 h1 h2
              rw [List.take_of_length_le (by rw [HN0.out]; exact Nat.le_refl _), hz2] at h
              exact h⟩
            have HD3 : Aside0 (∀ (W : World), Below w.heap.size w W → Calls Try.prog 68 #[.agg #[.slice A0 n0 c0, .slice (some ad) n1 c1], .agg #[.int .i64 a.f0, .int .i64 a.f1, .int .i64 a.f2], .slice (some ad) jj c1] W fun e w' => e = .returned (.bool z3) ∧ Below W.heap.size W w') := ⟨fun W hW => by
              have h := lk_free_calls A0 c0 l0 (some ad) c1 l1 a (some ad) c1 (l1.take jj) W (Kd.C_below HR0.out hW) (Kd.C_take (Kd.C_below HR1.out hW) HKL.out)
              rw [hz3, HN0.out, HN1.out, List.length_take, Nat.min_eq_left HKL.out] at h
              exact h⟩
            rw [hz1, hz2, hz3] at HAT
            clear hz1 hz2 hz3
            cases z1 with
            | true =>
              go_wp2
              refine start_ (n := 26) (S := (fun w' => w'.cell? ⟨gl, 0, none⟩ = some (.slice A0 n0 c0) ∧ w'.cell? ⟨gl, 1, none⟩ = some (.slice (some ad) n1 c1) ∧ w'.cell? ⟨wr.heap.size, 0, none⟩ = some (.int .i64 a.f0) ∧ w'.cell? ⟨wr.heap.size, 1, none⟩ = some (.int .i64 a.f1) ∧ w'.cell? ⟨wr.heap.size, 2, none⟩ = some (.int .i64 a.f2))) (ds := []) #[false, false, false, false, false, false, false, false, false, false, false, false, false, false, false, false, false, false, false, false, false, false, false, false, false, false] (by kernel_rfl) rfl rfl HS0.out (fun hHeld => ?_); refine with_tabW lk_tab10 lk_bits10 (fun HT_ HW_ => ?_)
              have HBw9 : Aside0 (Below w.heap.size w (wr.alloc (.cells #[.int .i64 a.f0, .int .i64 a.f1, .int .i64 a.f2] 61)).drew) := ⟨below_drew1 (below_alloc HWQ.out _)⟩
              have HQw9 := Aside0.mk (below_drew1 (below_alloc BW2.out (.cells #[.int .i64 a.f0, .int .i64 a.f1, .int .i64 a.f2] 61)))
              generalize (wr.alloc (.cells #[.int .i64 a.f0, .int .i64 a.f1, .int .i64 a.f2] 61)).drew = w9 at hHeld HBw9 HQw9 ⊢
              refine take_ (i := 0) (N := some 35) (v := ?_) (a' := ?_) #[true, false, false, false, false, false, false, false, false, false, false, false, false, false, false, false, false, false, false, false, false, false, false, false, false, false] rfl rfl (take_ofW HT_.out HW_.out (by kernel_rfl)) (fun _ _ _ h => h) (Or.inl ⟨by rfl, ?_⟩) hHeld ?_ ?_
              rotate_left
              · rintro w' ⟨s0, s1, s2, s3, s4⟩
                go_simp
                with_reducible rfl
              rotate_left
              · simp only [Act.put, List.setIfInBounds_toArray, List.set_cons_zero, List.set_cons_succ, i64_w, i32_w]
                rfl
              refine one_ (i := 1) (N := some 36) #[true, true, false, false, false, false, false, false, false, false, false, false, false, false, false, false, false, false, false, false, false, false, false, false, false, false] rfl rfl (one_of HT_.out (by kernel_rfl)) (by decide) (fun K hK => ?_)
              refine goes_ Try.func61 (by kernel_rfl) rfl #[.agg #[.int .i64 a.f0, .int .i64 a.f1, .int .i64 a.f2]] (by rfl) rfl rfl (by (try simp only [List.map_toArray, List.map_cons, List.map_nil]); first | done | rfl) ?_
              with_reducible refine (impl_Ask_ok.calls a.f0 a.f1 a.f2 true _ HOK.out).mono ?_
              rintro e w10 ⟨rfl, hb⟩
              refine ⟨_, rfl, ?_⟩
              have HBw10 := Aside0.mk (below_step HBw9.out hb)
              have HQw10 := Aside0.mk (below_step HQw9.out hb)
              have n_ := lk_keep hb hHeld
              clear hHeld
              refine hK.out _ _ n_ (fun hHeld => ?_)
              clear n_ hb
              clear hK K
              refine norm_ (a' := ?_) ?_ ?_
              rotate_left
              · show Act.put _ (some 36) _ = _
                simp only [Act.put, List.setIfInBounds_toArray, List.set_cons_zero, List.set_cons_succ, i64_w, i32_w]
                rfl
              refine pure_ (i := 2) (N := some 37) (v := ?_) (a' := ?_) #[true, true, true, false, false, false, false, false, false, false, false, false, false, false, false, false, false, false, false, false, false, false, false, false, false, false] rfl rfl (any_of HT_.out (by kernel_rfl)) (fun _ _ _ h => h) (Or.inl ⟨by rfl, ?_⟩) ?_ ?_
              rotate_left
              · intro w'
                go_simp
                with_reducible rfl
              rotate_left
              · simp only [Act.put, List.setIfInBounds_toArray, List.set_cons_zero, List.set_cons_succ, i64_w, i32_w]
                rfl
              refine pure_ (i := 3) (N := some 38) (v := ?_) (a' := ?_) #[true, true, true, true, false, false, false, false, false, false, false, false, false, false, false, false, false, false, false, false, false, false, false, false, false, false] rfl rfl (any_of HT_.out (by kernel_rfl)) (fun _ _ _ h => h) (Or.inl ⟨by rfl, ?_⟩) ?_ ?_
              rotate_left
              · intro w'
                go_simp
                with_reducible rfl
              rotate_left
              · simp only [Act.put, List.setIfInBounds_toArray, List.set_cons_zero, List.set_cons_succ, i64_w, i32_w]
                rfl
              refine pure_ (i := 4) (N := some 39) (v := ?_) (a' := ?_) #[true, true, true, true, true, false, false, false, false, false, false, false, false, false, false, false, false, false, false, false, false, false, false, false, false, false] rfl rfl (any_of HT_.out (by kernel_rfl)) (fun _ _ _ h => h) (Or.inl ⟨by rfl, ?_⟩) ?_ ?_
              rotate_left
              · intro w'
                go_simp
                with_reducible rfl
              rotate_left
              · simp only [Act.put, List.setIfInBounds_toArray, List.set_cons_zero, List.set_cons_succ, i64_w, i32_w]
                rfl
              refine take_ (i := 5) (N := some 40) (v := ?_) (a' := ?_) #[true, true, true, true, true, true, false, false, false, false, false, false, false, false, false, false, false, false, false, false, false, false, false, false, false, false] rfl rfl (take_ofW HT_.out HW_.out (by kernel_rfl)) (fun _ _ _ h => h) (Or.inl ⟨by rfl, ?_⟩) hHeld ?_ ?_
              rotate_left
              · rintro w' ⟨s0, s1, s2, s3, s4⟩
                go_simp
                with_reducible rfl
              rotate_left
              · simp only [Act.put, List.setIfInBounds_toArray, List.set_cons_zero, List.set_cons_succ, i64_w, i32_w]
                rfl
              refine pure_ (i := 6) (N := some 41) (v := ?_) (a' := ?_) #[true, true, true, true, true, true, true, false, false, false, false, false, false, false, false, false, false, false, false, false, false, false, false, false, false, false] rfl rfl (any_of HT_.out (by kernel_rfl)) (fun _ _ _ h => h) (Or.inl ⟨by rfl, ?_⟩) ?_ ?_
              rotate_left
              · intro w'
                go_simp
                with_reducible rfl
              rotate_left
              · simp only [Act.put, List.setIfInBounds_toArray, List.set_cons_zero, List.set_cons_succ, i64_w, i32_w]
                rfl
              refine pure_ (i := 7) (N := some 42) (v := ?_) (a' := ?_) #[true, true, true, true, true, true, true, true, false, false, false, false, false, false, false, false, false, false, false, false, false, false, false, false, false, false] rfl rfl (any_of HT_.out (by kernel_rfl)) (fun _ _ _ h => h) (Or.inl ⟨by rfl, ?_⟩) ?_ ?_
              rotate_left
              · intro w'
                go_simp
                with_reducible rfl
              rotate_left
              · simp only [Act.put, List.setIfInBounds_toArray, List.set_cons_zero, List.set_cons_succ, i64_w, i32_w]
                rfl
              refine pure_ (i := 8) (N := some 43) (v := ?_) (a' := ?_) #[true, true, true, true, true, true, true, true, true, false, false, false, false, false, false, false, false, false, false, false, false, false, false, false, false, false] rfl rfl (any_of HT_.out (by kernel_rfl)) (fun _ _ _ h => h) (Or.inl ⟨by rfl, ?_⟩) ?_ ?_
              rotate_left
              · intro w'
                go_simp
                with_reducible rfl
              rotate_left
              · simp only [Act.put, List.setIfInBounds_toArray, List.set_cons_zero, List.set_cons_succ, i64_w, i32_w]
                rfl
              refine one_ (i := 9) (N := some 44) #[true, true, true, true, true, true, true, true, true, true, false, false, false, false, false, false, false, false, false, false, false, false, false, false, false, false] rfl rfl (one_of HT_.out (by kernel_rfl)) (by decide) (fun K hK => ?_)
              refine goes_ Try.func62 (by kernel_rfl) rfl #[.slice (some ad) jj c1, .func (.func 65) #[] #[.pointer (some ⟨wr.heap.size, 0, none⟩)]] (by rfl) rfl rfl (by (try simp only [List.map_toArray, List.map_cons, List.map_nil]); first | done | rfl) ?_
              with_reducible refine (HD1.out _ wr.heap.size HBw10.out hHeld.2.2.1 hHeld.2.2.2.1 hHeld.2.2.2.2).mono ?_
              rintro e w11 ⟨rfl, hb⟩
              refine ⟨_, rfl, ?_⟩
              have HBw11 := Aside0.mk (below_step HBw10.out hb)
              have HQw11 := Aside0.mk (below_step HQw10.out hb)
              have n_ := lk_keep hb hHeld
              clear hHeld
              refine hK.out _ _ n_ (fun hHeld => ?_)
              clear n_ hb
              clear hK K
              refine norm_ (a' := ?_) ?_ ?_
              rotate_left
              · show Act.put _ (some 44) _ = _
                simp only [Act.put, List.setIfInBounds_toArray, List.set_cons_zero, List.set_cons_succ, i64_w, i32_w]
                rfl
              refine pure_ (i := 10) (N := some 45) (v := ?_) (a' := ?_) #[true, true, true, true, true, true, true, true, true, true, true, false, false, false, false, false, false, false, false, false, false, false, false, false, false, false] rfl rfl (any_of HT_.out (by kernel_rfl)) (fun _ _ _ h => h) (Or.inl ⟨by rfl, ?_⟩) ?_ ?_
              rotate_left
              · intro w'
                go_simp
                with_reducible rfl
              rotate_left
              · simp only [Act.put, List.setIfInBounds_toArray, List.set_cons_zero, List.set_cons_succ, i64_w, i32_w]
                rfl
              refine pure_ (i := 11) (N := some 46) (v := ?_) (a' := ?_) #[true, true, true, true, true, true, true, true, true, true, true, true, false, false, false, false, false, false, false, false, false, false, false, false, false, false] rfl rfl (any_of HT_.out (by kernel_rfl)) (fun _ _ _ h => h) (Or.inl ⟨by rfl, ?_⟩) ?_ ?_
              rotate_left
              · intro w'
                go_simp
                with_reducible rfl
              rotate_left
              · simp only [Act.put, List.setIfInBounds_toArray, List.set_cons_zero, List.set_cons_succ, i64_w, i32_w]
                rfl
              refine pure_ (i := 12) (N := some 47) (v := undef) (a' := ?_) #[true, true, true, true, true, true, true, true, true, true, true, true, true, false, false, false, false, false, false, false, false, false, false, false, false, false] rfl rfl (any_of HT_.out (by kernel_rfl)) (fun _ _ _ h => h) (Or.inr ⟨by rfl, rfl⟩) ?_ ?_
              rotate_left
              · simp only [Act.put, List.setIfInBounds_toArray, List.set_cons_zero, List.set_cons_succ, i64_w, i32_w]
                rfl
              refine pure_ (i := 13) (N := some 48) (v := undef) (a' := ?_) #[true, true, true, true, true, true, true, true, true, true, true, true, true, true, false, false, false, false, false, false, false, false, false, false, false, false] rfl rfl (any_of HT_.out (by kernel_rfl)) (fun _ _ _ h => h) (Or.inr ⟨by rfl, rfl⟩) ?_ ?_
              rotate_left
              · simp only [Act.put, List.setIfInBounds_toArray, List.set_cons_zero, List.set_cons_succ, i64_w, i32_w]
                rfl
              refine pure_ (i := 14) (N := some 49) (v := undef) (a' := ?_) #[true, true, true, true, true, true, true, true, true, true, true, true, true, true, true, false, false, false, false, false, false, false, false, false, false, false] rfl rfl (any_of HT_.out (by kernel_rfl)) (fun _ _ _ h => h) (Or.inr ⟨by rfl, rfl⟩) ?_ ?_
              rotate_left
              · simp only [Act.put, List.setIfInBounds_toArray, List.set_cons_zero, List.set_cons_succ, i64_w, i32_w]
                rfl
              refine pure_ (i := 15) (N := some 50) (v := undef) (a' := ?_) #[true, true, true, true, true, true, true, true, true, true, true, true, true, true, true, true, false, false, false, false, false, false, false, false, false, false] rfl rfl (any_of HT_.out (by kernel_rfl)) (fun _ _ _ h => h) (Or.inr ⟨by rfl, rfl⟩) ?_ ?_
              rotate_left
              · simp only [Act.put, List.setIfInBounds_toArray, List.set_cons_zero, List.set_cons_succ, i64_w, i32_w]
                rfl
              refine pure_ (i := 16) (N := some 51) (v := ?_) (a' := ?_) #[true, true, true, true, true, true, true, true, true, true, true, true, true, true, true, true, true, false, false, false, false, false, false, false, false, false] rfl rfl (any_of HT_.out (by kernel_rfl)) (fun _ _ _ h => h) (Or.inl ⟨by rfl, ?_⟩) ?_ ?_
              rotate_left
              · intro w'
                go_simp
                with_reducible rfl
              rotate_left
              · simp only [Act.put, List.setIfInBounds_toArray, List.set_cons_zero, List.set_cons_succ, i64_w, i32_w]
                rfl
              refine pure_ (i := 17) (N := some 52) (v := ?_) (a' := ?_) #[true, true, true, true, true, true, true, true, true, true, true, true, true, true, true, true, true, true, false, false, false, false, false, false, false, false] rfl rfl (any_of HT_.out (by kernel_rfl)) (fun _ _ _ h => h) (Or.inl ⟨by rfl, ?_⟩) ?_ ?_
              rotate_left
              · intro w'
                go_simp
                with_reducible rfl
              rotate_left
              · simp only [Act.put, List.setIfInBounds_toArray, List.set_cons_zero, List.set_cons_succ, i64_w, i32_w]
                rfl
              refine pure_ (i := 18) (N := some 53) (v := undef) (a' := ?_) #[true, true, true, true, true, true, true, true, true, true, true, true, true, true, true, true, true, true, true, false, false, false, false, false, false, false] rfl rfl (any_of HT_.out (by kernel_rfl)) (fun _ _ _ h => h) (Or.inr ⟨by rfl, rfl⟩) ?_ ?_
              rotate_left
              · simp only [Act.put, List.setIfInBounds_toArray, List.set_cons_zero, List.set_cons_succ, i64_w, i32_w]
                rfl
              refine pure_ (i := 19) (N := some 54) (v := undef) (a' := ?_) #[true, true, true, true, true, true, true, true, true, true, true, true, true, true, true, true, true, true, true, true, false, false, false, false, false, false] rfl rfl (any_of HT_.out (by kernel_rfl)) (fun _ _ _ h => h) (Or.inr ⟨by rfl, rfl⟩) ?_ ?_
              rotate_left
              · simp only [Act.put, List.setIfInBounds_toArray, List.set_cons_zero, List.set_cons_succ, i64_w, i32_w]
                rfl
              refine pure_ (i := 20) (N := some 55) (v := undef) (a' := ?_) #[true, true, true, true, true, true, true, true, true, true, true, true, true, true, true, true, true, true, true, true, true, false, false, false, false, false] rfl rfl (any_of HT_.out (by kernel_rfl)) (fun _ _ _ h => h) (Or.inr ⟨by rfl, rfl⟩) ?_ ?_
              rotate_left
              · simp only [Act.put, List.setIfInBounds_toArray, List.set_cons_zero, List.set_cons_succ, i64_w, i32_w]
                rfl
              refine pure_ (i := 21) (N := some 56) (v := undef) (a' := ?_) #[true, true, true, true, true, true, true, true, true, true, true, true, true, true, true, true, true, true, true, true, true, true, false, false, false, false] rfl rfl (any_of HT_.out (by kernel_rfl)) (fun _ _ _ h => h) (Or.inr ⟨by rfl, rfl⟩) ?_ ?_
              rotate_left
              · simp only [Act.put, List.setIfInBounds_toArray, List.set_cons_zero, List.set_cons_succ, i64_w, i32_w]
                rfl
              refine pure_ (i := 22) (N := some 57) (v := undef) (a' := ?_) #[true, true, true, true, true, true, true, true, true, true, true, true, true, true, true, true, true, true, true, true, true, true, true, false, false, false] rfl rfl (any_of HT_.out (by kernel_rfl)) (fun _ _ _ h => h) (Or.inr ⟨by rfl, rfl⟩) ?_ ?_
              rotate_left
              · simp only [Act.put, List.setIfInBounds_toArray, List.set_cons_zero, List.set_cons_succ, i64_w, i32_w]
                rfl
              refine pure_ (i := 23) (N := some 58) (v := undef) (a' := ?_) #[true, true, true, true, true, true, true, true, true, true, true, true, true, true, true, true, true, true, true, true, true, true, true, true, false, false] rfl rfl (any_of HT_.out (by kernel_rfl)) (fun _ _ _ h => h) (Or.inr ⟨by rfl, rfl⟩) ?_ ?_
              rotate_left
              · simp only [Act.put, List.setIfInBounds_toArray, List.set_cons_zero, List.set_cons_succ, i64_w, i32_w]
                rfl
              refine pure_ (i := 24) (N := some 59) (v := undef) (a' := ?_) #[true, true, true, true, true, true, true, true, true, true, true, true, true, true, true, true, true, true, true, true, true, true, true, true, true, false] rfl rfl (any_of HT_.out (by kernel_rfl)) (fun _ _ _ h => h) (Or.inr ⟨by rfl, rfl⟩) ?_ ?_
              rotate_left
              · simp only [Act.put, List.setIfInBounds_toArray, List.set_cons_zero, List.set_cons_succ, i64_w, i32_w]
                rfl
              refine pure_ (i := 25) (N := some 60) (v := ?_) (a' := ?_) #[true, true, true, true, true, true, true, true, true, true, true, true, true, true, true, true, true, true, true, true, true, true, true, true, true, true] rfl rfl (any_of HT_.out (by kernel_rfl)) (fun _ _ _ h => h) (Or.inl ⟨by rfl, ?_⟩) ?_ ?_
              rotate_left
              · intro w'
                go_simp
                with_reducible rfl
              rotate_left
              · simp only [Act.put, List.setIfInBounds_toArray, List.set_cons_zero, List.set_cons_succ, i64_w, i32_w]
                rfl
              refine done_ (done_of HT_.out (by kernel_rfl)) ?_
              go_wp2
              go_ret
              exact ⟨by rw [lk_no1 l0 l1 jj HLT.out (by rw [HAT.out]; rfl)]; rfl, HBw11.out⟩
            | false =>
              cases z2 with
              | true =>
                go_wp2
                refine start_ (n := 26) (S := (fun w' => w'.cell? ⟨gl, 0, none⟩ = some (.slice A0 n0 c0) ∧ w'.cell? ⟨gl, 1, none⟩ = some (.slice (some ad) n1 c1) ∧ w'.cell? ⟨wr.heap.size, 0, none⟩ = some (.int .i64 a.f0) ∧ w'.cell? ⟨wr.heap.size, 1, none⟩ = some (.int .i64 a.f1) ∧ w'.cell? ⟨wr.heap.size, 2, none⟩ = some (.int .i64 a.f2))) (ds := []) #[false, false, false, false, false, false, false, false, false, false, false, false, false, false, false, false, false, false, false, false, false, false, false, false, false, false] (by kernel_rfl) rfl rfl HS0.out (fun hHeld => ?_); refine with_tabW lk_tab10 lk_bits10 (fun HT_ HW_ => ?_)
                have HBw9 : Aside0 (Below w.heap.size w (wr.alloc (.cells #[.int .i64 a.f0, .int .i64 a.f1, .int .i64 a.f2] 61)).drew) := ⟨below_drew1 (below_alloc HWQ.out _)⟩
                have HQw9 := Aside0.mk (below_drew1 (below_alloc BW2.out (.cells #[.int .i64 a.f0, .int .i64 a.f1, .int .i64 a.f2] 61)))
                generalize (wr.alloc (.cells #[.int .i64 a.f0, .int .i64 a.f1, .int .i64 a.f2] 61)).drew = w9 at hHeld HBw9 HQw9 ⊢
                refine take_ (i := 0) (N := some 35) (v := ?_) (a' := ?_) #[true, false, false, false, false, false, false, false, false, false, false, false, false, false, false, false, false, false, false, false, false, false, false, false, false, false] rfl rfl (take_ofW HT_.out HW_.out (by kernel_rfl)) (fun _ _ _ h => h) (Or.inl ⟨by rfl, ?_⟩) hHeld ?_ ?_
                rotate_left
                · rintro w' ⟨s0, s1, s2, s3, s4⟩
                  go_simp
                  with_reducible rfl
                rotate_left
                · simp only [Act.put, List.setIfInBounds_toArray, List.set_cons_zero, List.set_cons_succ, i64_w, i32_w]
                  rfl
                refine one_ (i := 1) (N := some 36) #[true, true, false, false, false, false, false, false, false, false, false, false, false, false, false, false, false, false, false, false, false, false, false, false, false, false] rfl rfl (one_of HT_.out (by kernel_rfl)) (by decide) (fun K hK => ?_)
                refine goes_ Try.func61 (by kernel_rfl) rfl #[.agg #[.int .i64 a.f0, .int .i64 a.f1, .int .i64 a.f2]] (by rfl) rfl rfl (by (try simp only [List.map_toArray, List.map_cons, List.map_nil]); first | done | rfl) ?_
                with_reducible refine (impl_Ask_ok.calls a.f0 a.f1 a.f2 true _ HOK.out).mono ?_
                rintro e w10 ⟨rfl, hb⟩
                refine ⟨_, rfl, ?_⟩
                have HBw10 := Aside0.mk (below_step HBw9.out hb)
                have HQw10 := Aside0.mk (below_step HQw9.out hb)
                have n_ := lk_keep hb hHeld
                clear hHeld
                refine hK.out _ _ n_ (fun hHeld => ?_)
                clear n_ hb
                clear hK K
                refine norm_ (a' := ?_) ?_ ?_
                rotate_left
                · show Act.put _ (some 36) _ = _
                  simp only [Act.put, List.setIfInBounds_toArray, List.set_cons_zero, List.set_cons_succ, i64_w, i32_w]
                  rfl
                refine pure_ (i := 2) (N := some 37) (v := ?_) (a' := ?_) #[true, true, true, false, false, false, false, false, false, false, false, false, false, false, false, false, false, false, false, false, false, false, false, false, false, false] rfl rfl (any_of HT_.out (by kernel_rfl)) (fun _ _ _ h => h) (Or.inl ⟨by rfl, ?_⟩) ?_ ?_
                rotate_left
                · intro w'
                  go_simp
                  with_reducible rfl
                rotate_left
                · simp only [Act.put, List.setIfInBounds_toArray, List.set_cons_zero, List.set_cons_succ, i64_w, i32_w]
                  rfl
                refine pure_ (i := 3) (N := some 38) (v := ?_) (a' := ?_) #[true, true, true, true, false, false, false, false, false, false, false, false, false, false, false, false, false, false, false, false, false, false, false, false, false, false] rfl rfl (any_of HT_.out (by kernel_rfl)) (fun _ _ _ h => h) (Or.inl ⟨by rfl, ?_⟩) ?_ ?_
                rotate_left
                · intro w'
                  go_simp
                  with_reducible rfl
                rotate_left
                · simp only [Act.put, List.setIfInBounds_toArray, List.set_cons_zero, List.set_cons_succ, i64_w, i32_w]
                  rfl
                refine pure_ (i := 4) (N := some 39) (v := ?_) (a' := ?_) #[true, true, true, true, true, false, false, false, false, false, false, false, false, false, false, false, false, false, false, false, false, false, false, false, false, false] rfl rfl (any_of HT_.out (by kernel_rfl)) (fun _ _ _ h => h) (Or.inl ⟨by rfl, ?_⟩) ?_ ?_
                rotate_left
                · intro w'
                  go_simp
                  with_reducible rfl
                rotate_left
                · simp only [Act.put, List.setIfInBounds_toArray, List.set_cons_zero, List.set_cons_succ, i64_w, i32_w]
                  rfl
                refine take_ (i := 5) (N := some 40) (v := ?_) (a' := ?_) #[true, true, true, true, true, true, false, false, false, false, false, false, false, false, false, false, false, false, false, false, false, false, false, false, false, false] rfl rfl (take_ofW HT_.out HW_.out (by kernel_rfl)) (fun _ _ _ h => h) (Or.inl ⟨by rfl, ?_⟩) hHeld ?_ ?_
                rotate_left
                · rintro w' ⟨s0, s1, s2, s3, s4⟩
                  go_simp
                  with_reducible rfl
                rotate_left
                · simp only [Act.put, List.setIfInBounds_toArray, List.set_cons_zero, List.set_cons_succ, i64_w, i32_w]
                  rfl
                refine pure_ (i := 6) (N := some 41) (v := ?_) (a' := ?_) #[true, true, true, true, true, true, true, false, false, false, false, false, false, false, false, false, false, false, false, false, false, false, false, false, false, false] rfl rfl (any_of HT_.out (by kernel_rfl)) (fun _ _ _ h => h) (Or.inl ⟨by rfl, ?_⟩) ?_ ?_
                rotate_left
                · intro w'
                  go_simp
                  with_reducible rfl
                rotate_left
                · simp only [Act.put, List.setIfInBounds_toArray, List.set_cons_zero, List.set_cons_succ, i64_w, i32_w]
                  rfl
                refine pure_ (i := 7) (N := some 42) (v := ?_) (a' := ?_) #[true, true, true, true, true, true, true, true, false, false, false, false, false, false, false, false, false, false, false, false, false, false, false, false, false, false] rfl rfl (any_of HT_.out (by kernel_rfl)) (fun _ _ _ h => h) (Or.inl ⟨by rfl, ?_⟩) ?_ ?_
                rotate_left
                · intro w'
                  go_simp
                  with_reducible rfl
                rotate_left
                · simp only [Act.put, List.setIfInBounds_toArray, List.set_cons_zero, List.set_cons_succ, i64_w, i32_w]
                  rfl
                refine pure_ (i := 8) (N := some 43) (v := ?_) (a' := ?_) #[true, true, true, true, true, true, true, true, true, false, false, false, false, false, false, false, false, false, false, false, false, false, false, false, false, false] rfl rfl (any_of HT_.out (by kernel_rfl)) (fun _ _ _ h => h) (Or.inl ⟨by rfl, ?_⟩) ?_ ?_
                rotate_left
                · intro w'
                  go_simp
                  with_reducible rfl
                rotate_left
                · simp only [Act.put, List.setIfInBounds_toArray, List.set_cons_zero, List.set_cons_succ, i64_w, i32_w]
                  rfl
                refine one_ (i := 9) (N := some 44) #[true, true, true, true, true, true, true, true, true, true, false, false, false, false, false, false, false, false, false, false, false, false, false, false, false, false] rfl rfl (one_of HT_.out (by kernel_rfl)) (by decide) (fun K hK => ?_)
                refine goes_ Try.func62 (by kernel_rfl) rfl #[.slice (some ad) jj c1, .func (.func 65) #[] #[.pointer (some ⟨wr.heap.size, 0, none⟩)]] (by rfl) rfl rfl (by (try simp only [List.map_toArray, List.map_cons, List.map_nil]); first | done | rfl) ?_
                with_reducible refine (HD1.out _ wr.heap.size HBw10.out hHeld.2.2.1 hHeld.2.2.2.1 hHeld.2.2.2.2).mono ?_
                rintro e w11 ⟨rfl, hb⟩
                refine ⟨_, rfl, ?_⟩
                have HBw11 := Aside0.mk (below_step HBw10.out hb)
                have HQw11 := Aside0.mk (below_step HQw10.out hb)
                have n_ := lk_keep hb hHeld
                clear hHeld
                refine hK.out _ _ n_ (fun hHeld => ?_)
                clear n_ hb
                clear hK K
                refine norm_ (a' := ?_) ?_ ?_
                rotate_left
                · show Act.put _ (some 44) _ = _
                  simp only [Act.put, List.setIfInBounds_toArray, List.set_cons_zero, List.set_cons_succ, i64_w, i32_w]
                  rfl
                refine pure_ (i := 10) (N := some 45) (v := ?_) (a' := ?_) #[true, true, true, true, true, true, true, true, true, true, true, false, false, false, false, false, false, false, false, false, false, false, false, false, false, false] rfl rfl (any_of HT_.out (by kernel_rfl)) (fun _ _ _ h => h) (Or.inl ⟨by rfl, ?_⟩) ?_ ?_
                rotate_left
                · intro w'
                  go_simp
                  with_reducible rfl
                rotate_left
                · simp only [Act.put, List.setIfInBounds_toArray, List.set_cons_zero, List.set_cons_succ, i64_w, i32_w]
                  rfl
                refine pure_ (i := 11) (N := some 46) (v := ?_) (a' := ?_) #[true, true, true, true, true, true, true, true, true, true, true, true, false, false, false, false, false, false, false, false, false, false, false, false, false, false] rfl rfl (any_of HT_.out (by kernel_rfl)) (fun _ _ _ h => h) (Or.inl ⟨by rfl, ?_⟩) ?_ ?_
                rotate_left
                · intro w'
                  go_simp
                  with_reducible rfl
                rotate_left
                · simp only [Act.put, List.setIfInBounds_toArray, List.set_cons_zero, List.set_cons_succ, i64_w, i32_w]
                  rfl
                refine pure_ (i := 12) (N := some 47) (v := ?_) (a' := ?_) #[true, true, true, true, true, true, true, true, true, true, true, true, true, false, false, false, false, false, false, false, false, false, false, false, false, false] rfl rfl (any_of HT_.out (by kernel_rfl)) (fun _ _ _ h => h) (Or.inl ⟨by rfl, ?_⟩) ?_ ?_
                rotate_left
                · intro w'
                  go_simp
                  with_reducible rfl
                rotate_left
                · simp only [Act.put, List.setIfInBounds_toArray, List.set_cons_zero, List.set_cons_succ, i64_w, i32_w]
                  rfl
                refine take_ (i := 13) (N := some 48) (v := ?_) (a' := ?_) #[true, true, true, true, true, true, true, true, true, true, true, true, true, true, false, false, false, false, false, false, false, false, false, false, false, false] rfl rfl (take_ofW HT_.out HW_.out (by kernel_rfl)) (fun _ _ _ h => h) (Or.inl ⟨by rfl, ?_⟩) hHeld ?_ ?_
                rotate_left
                · rintro w' ⟨s0, s1, s2, s3, s4⟩
                  go_simp
                  with_reducible rfl
                rotate_left
                · simp only [Act.put, List.setIfInBounds_toArray, List.set_cons_zero, List.set_cons_succ, i64_w, i32_w]
                  rfl
                refine pure_ (i := 14) (N := some 49) (v := ?_) (a' := ?_) #[true, true, true, true, true, true, true, true, true, true, true, true, true, true, true, false, false, false, false, false, false, false, false, false, false, false] rfl rfl (any_of HT_.out (by kernel_rfl)) (fun _ _ _ h => h) (Or.inl ⟨by rfl, ?_⟩) ?_ ?_
                rotate_left
                · intro w'
                  go_simp
                  with_reducible rfl
                rotate_left
                · simp only [Act.put, List.setIfInBounds_toArray, List.set_cons_zero, List.set_cons_succ, i64_w, i32_w]
                  rfl
                refine one_ (i := 15) (N := some 50) #[true, true, true, true, true, true, true, true, true, true, true, true, true, true, true, true, false, false, false, false, false, false, false, false, false, false] rfl rfl (one_of HT_.out (by kernel_rfl)) (by decide) (fun K hK => ?_)
                refine goes_ Try.func62 (by kernel_rfl) rfl #[.slice A0 n0 c0, .func (.func 66) #[] #[.pointer (some ⟨wr.heap.size, 0, none⟩)]] (by rfl) rfl rfl (by (try simp only [List.map_toArray, List.map_cons, List.map_nil]); first | done | rfl) ?_
                with_reducible refine (HD2.out _ wr.heap.size HBw11.out hHeld.2.2.1 hHeld.2.2.2.1 hHeld.2.2.2.2).mono ?_
                rintro e w12 ⟨rfl, hb⟩
                refine ⟨_, rfl, ?_⟩
                have HBw12 := Aside0.mk (below_step HBw11.out hb)
                have HQw12 := Aside0.mk (below_step HQw11.out hb)
                have n_ := lk_keep hb hHeld
                clear hHeld
                refine hK.out _ _ n_ (fun hHeld => ?_)
                clear n_ hb
                clear hK K
                refine norm_ (a' := ?_) ?_ ?_
                rotate_left
                · show Act.put _ (some 50) _ = _
                  simp only [Act.put, List.setIfInBounds_toArray, List.set_cons_zero, List.set_cons_succ, i64_w, i32_w]
                  rfl
                refine pure_ (i := 16) (N := some 51) (v := ?_) (a' := ?_) #[true, true, true, true, true, true, true, true, true, true, true, true, true, true, true, true, true, false, false, false, false, false, false, false, false, false] rfl rfl (any_of HT_.out (by kernel_rfl)) (fun _ _ _ h => h) (Or.inl ⟨by rfl, ?_⟩) ?_ ?_
                rotate_left
                · intro w'
                  go_simp
                  with_reducible rfl
                rotate_left
                · simp only [Act.put, List.setIfInBounds_toArray, List.set_cons_zero, List.set_cons_succ, i64_w, i32_w]
                  rfl
                refine pure_ (i := 17) (N := some 52) (v := ?_) (a' := ?_) #[true, true, true, true, true, true, true, true, true, true, true, true, true, true, true, true, true, true, false, false, false, false, false, false, false, false] rfl rfl (any_of HT_.out (by kernel_rfl)) (fun _ _ _ h => h) (Or.inl ⟨by rfl, ?_⟩) ?_ ?_
                rotate_left
                · intro w'
                  go_simp
                  with_reducible rfl
                rotate_left
                · simp only [Act.put, List.setIfInBounds_toArray, List.set_cons_zero, List.set_cons_succ, i64_w, i32_w]
                  rfl
                refine pure_ (i := 18) (N := some 53) (v := undef) (a' := ?_) #[true, true, true, true, true, true, true, true, true, true, true, true, true, true, true, true, true, true, true, false, false, false, false, false, false, false] rfl rfl (any_of HT_.out (by kernel_rfl)) (fun _ _ _ h => h) (Or.inr ⟨by rfl, rfl⟩) ?_ ?_
                rotate_left
                · simp only [Act.put, List.setIfInBounds_toArray, List.set_cons_zero, List.set_cons_succ, i64_w, i32_w]
                  rfl
                refine pure_ (i := 19) (N := some 54) (v := undef) (a' := ?_) #[true, true, true, true, true, true, true, true, true, true, true, true, true, true, true, true, true, true, true, true, false, false, false, false, false, false] rfl rfl (any_of HT_.out (by kernel_rfl)) (fun _ _ _ h => h) (Or.inr ⟨by rfl, rfl⟩) ?_ ?_
                rotate_left
                · simp only [Act.put, List.setIfInBounds_toArray, List.set_cons_zero, List.set_cons_succ, i64_w, i32_w]
                  rfl
                refine pure_ (i := 20) (N := some 55) (v := undef) (a' := ?_) #[true, true, true, true, true, true, true, true, true, true, true, true, true, true, true, true, true, true, true, true, true, false, false, false, false, false] rfl rfl (any_of HT_.out (by kernel_rfl)) (fun _ _ _ h => h) (Or.inr ⟨by rfl, rfl⟩) ?_ ?_
                rotate_left
                · simp only [Act.put, List.setIfInBounds_toArray, List.set_cons_zero, List.set_cons_succ, i64_w, i32_w]
                  rfl
                refine pure_ (i := 21) (N := some 56) (v := undef) (a' := ?_) #[true, true, true, true, true, true, true, true, true, true, true, true, true, true, true, true, true, true, true, true, true, true, false, false, false, false] rfl rfl (any_of HT_.out (by kernel_rfl)) (fun _ _ _ h => h) (Or.inr ⟨by rfl, rfl⟩) ?_ ?_
                rotate_left
                · simp only [Act.put, List.setIfInBounds_toArray, List.set_cons_zero, List.set_cons_succ, i64_w, i32_w]
                  rfl
                refine pure_ (i := 22) (N := some 57) (v := undef) (a' := ?_) #[true, true, true, true, true, true, true, true, true, true, true, true, true, true, true, true, true, true, true, true, true, true, true, false, false, false] rfl rfl (any_of HT_.out (by kernel_rfl)) (fun _ _ _ h => h) (Or.inr ⟨by rfl, rfl⟩) ?_ ?_
                rotate_left
                · simp only [Act.put, List.setIfInBounds_toArray, List.set_cons_zero, List.set_cons_succ, i64_w, i32_w]
                  rfl
                refine pure_ (i := 23) (N := some 58) (v := undef) (a' := ?_) #[true, true, true, true, true, true, true, true, true, true, true, true, true, true, true, true, true, true, true, true, true, true, true, true, false, false] rfl rfl (any_of HT_.out (by kernel_rfl)) (fun _ _ _ h => h) (Or.inr ⟨by rfl, rfl⟩) ?_ ?_
                rotate_left
                · simp only [Act.put, List.setIfInBounds_toArray, List.set_cons_zero, List.set_cons_succ, i64_w, i32_w]
                  rfl
                refine pure_ (i := 24) (N := some 59) (v := undef) (a' := ?_) #[true, true, true, true, true, true, true, true, true, true, true, true, true, true, true, true, true, true, true, true, true, true, true, true, true, false] rfl rfl (any_of HT_.out (by kernel_rfl)) (fun _ _ _ h => h) (Or.inr ⟨by rfl, rfl⟩) ?_ ?_
                rotate_left
                · simp only [Act.put, List.setIfInBounds_toArray, List.set_cons_zero, List.set_cons_succ, i64_w, i32_w]
                  rfl
                refine pure_ (i := 25) (N := some 60) (v := ?_) (a' := ?_) #[true, true, true, true, true, true, true, true, true, true, true, true, true, true, true, true, true, true, true, true, true, true, true, true, true, true] rfl rfl (any_of HT_.out (by kernel_rfl)) (fun _ _ _ h => h) (Or.inl ⟨by rfl, ?_⟩) ?_ ?_
                rotate_left
                · intro w'
                  go_simp
                  with_reducible rfl
                rotate_left
                · simp only [Act.put, List.setIfInBounds_toArray, List.set_cons_zero, List.set_cons_succ, i64_w, i32_w]
                  rfl
                refine done_ (done_of HT_.out (by kernel_rfl)) ?_
                go_wp2
                go_ret
                exact ⟨by rw [lk_no1 l0 l1 jj HLT.out (by rw [HAT.out]; rfl)]; rfl, HBw12.out⟩
              | false =>
                cases z3 with
                | true =>
                  go_wp2
                  refine start_ (n := 26) (S := (fun w' => w'.cell? ⟨gl, 0, none⟩ = some (.slice A0 n0 c0) ∧ w'.cell? ⟨gl, 1, none⟩ = some (.slice (some ad) n1 c1) ∧ w'.cell? ⟨wr.heap.size, 0, none⟩ = some (.int .i64 a.f0) ∧ w'.cell? ⟨wr.heap.size, 1, none⟩ = some (.int .i64 a.f1) ∧ w'.cell? ⟨wr.heap.size, 2, none⟩ = some (.int .i64 a.f2))) (ds := []) #[false, false, false, false, false, false, false, false, false, false, false, false, false, false, false, false, false, false, false, false, false, false, false, false, false, false] (by kernel_rfl) rfl rfl HS0.out (fun hHeld => ?_); refine with_tabW lk_tab10 lk_bits10 (fun HT_ HW_ => ?_)
                  have HBw9 : Aside0 (Below w.heap.size w (wr.alloc (.cells #[.int .i64 a.f0, .int .i64 a.f1, .int .i64 a.f2] 61)).drew) := ⟨below_drew1 (below_alloc HWQ.out _)⟩
                  have HQw9 := Aside0.mk (below_drew1 (below_alloc BW2.out (.cells #[.int .i64 a.f0, .int .i64 a.f1, .int .i64 a.f2] 61)))
                  generalize (wr.alloc (.cells #[.int .i64 a.f0, .int .i64 a.f1, .int .i64 a.f2] 61)).drew = w9 at hHeld HBw9 HQw9 ⊢
                  refine take_ (i := 0) (N := some 35) (v := ?_) (a' := ?_) #[true, false, false, false, false, false, false, false, false, false, false, false, false, false, false, false, false, false, false, false, false, false, false, false, false, false] rfl rfl (take_ofW HT_.out HW_.out (by kernel_rfl)) (fun _ _ _ h => h) (Or.inl ⟨by rfl, ?_⟩) hHeld ?_ ?_
                  rotate_left
                  · rintro w' ⟨s0, s1, s2, s3, s4⟩
                    go_simp
                    with_reducible rfl
                  rotate_left
                  · simp only [Act.put, List.setIfInBounds_toArray, List.set_cons_zero, List.set_cons_succ, i64_w, i32_w]
                    rfl
                  refine one_ (i := 1) (N := some 36) #[true, true, false, false, false, false, false, false, false, false, false, false, false, false, false, false, false, false, false, false, false, false, false, false, false, false] rfl rfl (one_of HT_.out (by kernel_rfl)) (by decide) (fun K hK => ?_)
                  refine goes_ Try.func61 (by kernel_rfl) rfl #[.agg #[.int .i64 a.f0, .int .i64 a.f1, .int .i64 a.f2]] (by rfl) rfl rfl (by (try simp only [List.map_toArray, List.map_cons, List.map_nil]); first | done | rfl) ?_
                  with_reducible refine (impl_Ask_ok.calls a.f0 a.f1 a.f2 true _ HOK.out).mono ?_
                  rintro e w10 ⟨rfl, hb⟩
                  refine ⟨_, rfl, ?_⟩
                  have HBw10 := Aside0.mk (below_step HBw9.out hb)
                  have HQw10 := Aside0.mk (below_step HQw9.out hb)
                  have n_ := lk_keep hb hHeld
                  clear hHeld
                  refine hK.out _ _ n_ (fun hHeld => ?_)
                  clear n_ hb
                  clear hK K
                  refine norm_ (a' := ?_) ?_ ?_
                  rotate_left
                  · show Act.put _ (some 36) _ = _
                    simp only [Act.put, List.setIfInBounds_toArray, List.set_cons_zero, List.set_cons_succ, i64_w, i32_w]
                    rfl
                  refine pure_ (i := 2) (N := some 37) (v := ?_) (a' := ?_) #[true, true, true, false, false, false, false, false, false, false, false, false, false, false, false, false, false, false, false, false, false, false, false, false, false, false] rfl rfl (any_of HT_.out (by kernel_rfl)) (fun _ _ _ h => h) (Or.inl ⟨by rfl, ?_⟩) ?_ ?_
                  rotate_left
                  · intro w'
                    go_simp
                    with_reducible rfl
                  rotate_left
                  · simp only [Act.put, List.setIfInBounds_toArray, List.set_cons_zero, List.set_cons_succ, i64_w, i32_w]
                    rfl
                  refine pure_ (i := 3) (N := some 38) (v := ?_) (a' := ?_) #[true, true, true, true, false, false, false, false, false, false, false, false, false, false, false, false, false, false, false, false, false, false, false, false, false, false] rfl rfl (any_of HT_.out (by kernel_rfl)) (fun _ _ _ h => h) (Or.inl ⟨by rfl, ?_⟩) ?_ ?_
                  rotate_left
                  · intro w'
                    go_simp
                    with_reducible rfl
                  rotate_left
                  · simp only [Act.put, List.setIfInBounds_toArray, List.set_cons_zero, List.set_cons_succ, i64_w, i32_w]
                    rfl
                  refine pure_ (i := 4) (N := some 39) (v := ?_) (a' := ?_) #[true, true, true, true, true, false, false, false, false, false, false, false, false, false, false, false, false, false, false, false, false, false, false, false, false, false] rfl rfl (any_of HT_.out (by kernel_rfl)) (fun _ _ _ h => h) (Or.inl ⟨by rfl, ?_⟩) ?_ ?_
                  rotate_left
                  · intro w'
                    go_simp
                    with_reducible rfl
                  rotate_left
                  · simp only [Act.put, List.setIfInBounds_toArray, List.set_cons_zero, List.set_cons_succ, i64_w, i32_w]
                    rfl
                  refine take_ (i := 5) (N := some 40) (v := ?_) (a' := ?_) #[true, true, true, true, true, true, false, false, false, false, false, false, false, false, false, false, false, false, false, false, false, false, false, false, false, false] rfl rfl (take_ofW HT_.out HW_.out (by kernel_rfl)) (fun _ _ _ h => h) (Or.inl ⟨by rfl, ?_⟩) hHeld ?_ ?_
                  rotate_left
                  · rintro w' ⟨s0, s1, s2, s3, s4⟩
                    go_simp
                    with_reducible rfl
                  rotate_left
                  · simp only [Act.put, List.setIfInBounds_toArray, List.set_cons_zero, List.set_cons_succ, i64_w, i32_w]
                    rfl
                  refine pure_ (i := 6) (N := some 41) (v := ?_) (a' := ?_) #[true, true, true, true, true, true, true, false, false, false, false, false, false, false, false, false, false, false, false, false, false, false, false, false, false, false] rfl rfl (any_of HT_.out (by kernel_rfl)) (fun _ _ _ h => h) (Or.inl ⟨by rfl, ?_⟩) ?_ ?_
                  rotate_left
                  · intro w'
                    go_simp
                    with_reducible rfl
                  rotate_left
                  · simp only [Act.put, List.setIfInBounds_toArray, List.set_cons_zero, List.set_cons_succ, i64_w, i32_w]
                    rfl
                  refine pure_ (i := 7) (N := some 42) (v := ?_) (a' := ?_) #[true, true, true, true, true, true, true, true, false, false, false, false, false, false, false, false, false, false, false, false, false, false, false, false, false, false] rfl rfl (any_of HT_.out (by kernel_rfl)) (fun _ _ _ h => h) (Or.inl ⟨by rfl, ?_⟩) ?_ ?_
                  rotate_left
                  · intro w'
                    go_simp
                    with_reducible rfl
                  rotate_left
                  · simp only [Act.put, List.setIfInBounds_toArray, List.set_cons_zero, List.set_cons_succ, i64_w, i32_w]
                    rfl
                  refine pure_ (i := 8) (N := some 43) (v := ?_) (a' := ?_) #[true, true, true, true, true, true, true, true, true, false, false, false, false, false, false, false, false, false, false, false, false, false, false, false, false, false] rfl rfl (any_of HT_.out (by kernel_rfl)) (fun _ _ _ h => h) (Or.inl ⟨by rfl, ?_⟩) ?_ ?_
                  rotate_left
                  · intro w'
                    go_simp
                    with_reducible rfl
                  rotate_left
                  · simp only [Act.put, List.setIfInBounds_toArray, List.set_cons_zero, List.set_cons_succ, i64_w, i32_w]
                    rfl
                  refine one_ (i := 9) (N := some 44) #[true, true, true, true, true, true, true, true, true, true, false, false, false, false, false, false, false, false, false, false, false, false, false, false, false, false] rfl rfl (one_of HT_.out (by kernel_rfl)) (by decide) (fun K hK => ?_)
                  refine goes_ Try.func62 (by kernel_rfl) rfl #[.slice (some ad) jj c1, .func (.func 65) #[] #[.pointer (some ⟨wr.heap.size, 0, none⟩)]] (by rfl) rfl rfl (by (try simp only [List.map_toArray, List.map_cons, List.map_nil]); first | done | rfl) ?_
                  with_reducible refine (HD1.out _ wr.heap.size HBw10.out hHeld.2.2.1 hHeld.2.2.2.1 hHeld.2.2.2.2).mono ?_
                  rintro e w11 ⟨rfl, hb⟩
                  refine ⟨_, rfl, ?_⟩
                  have HBw11 := Aside0.mk (below_step HBw10.out hb)
                  have HQw11 := Aside0.mk (below_step HQw10.out hb)
                  have n_ := lk_keep hb hHeld
                  clear hHeld
                  refine hK.out _ _ n_ (fun hHeld => ?_)
                  clear n_ hb
                  clear hK K
                  refine norm_ (a' := ?_) ?_ ?_
                  rotate_left
                  · show Act.put _ (some 44) _ = _
                    simp only [Act.put, List.setIfInBounds_toArray, List.set_cons_zero, List.set_cons_succ, i64_w, i32_w]
                    rfl
                  refine pure_ (i := 10) (N := some 45) (v := ?_) (a' := ?_) #[true, true, true, true, true, true, true, true, true, true, true, false, false, false, false, false, false, false, false, false, false, false, false, false, false, false] rfl rfl (any_of HT_.out (by kernel_rfl)) (fun _ _ _ h => h) (Or.inl ⟨by rfl, ?_⟩) ?_ ?_
                  rotate_left
                  · intro w'
                    go_simp
                    with_reducible rfl
                  rotate_left
                  · simp only [Act.put, List.setIfInBounds_toArray, List.set_cons_zero, List.set_cons_succ, i64_w, i32_w]
                    rfl
                  refine pure_ (i := 11) (N := some 46) (v := ?_) (a' := ?_) #[true, true, true, true, true, true, true, true, true, true, true, true, false, false, false, false, false, false, false, false, false, false, false, false, false, false] rfl rfl (any_of HT_.out (by kernel_rfl)) (fun _ _ _ h => h) (Or.inl ⟨by rfl, ?_⟩) ?_ ?_
                  rotate_left
                  · intro w'
                    go_simp
                    with_reducible rfl
                  rotate_left
                  · simp only [Act.put, List.setIfInBounds_toArray, List.set_cons_zero, List.set_cons_succ, i64_w, i32_w]
                    rfl
                  refine pure_ (i := 12) (N := some 47) (v := ?_) (a' := ?_) #[true, true, true, true, true, true, true, true, true, true, true, true, true, false, false, false, false, false, false, false, false, false, false, false, false, false] rfl rfl (any_of HT_.out (by kernel_rfl)) (fun _ _ _ h => h) (Or.inl ⟨by rfl, ?_⟩) ?_ ?_
                  rotate_left
                  · intro w'
                    go_simp
                    with_reducible rfl
                  rotate_left
                  · simp only [Act.put, List.setIfInBounds_toArray, List.set_cons_zero, List.set_cons_succ, i64_w, i32_w]
                    rfl
                  refine take_ (i := 13) (N := some 48) (v := ?_) (a' := ?_) #[true, true, true, true, true, true, true, true, true, true, true, true, true, true, false, false, false, false, false, false, false, false, false, false, false, false] rfl rfl (take_ofW HT_.out HW_.out (by kernel_rfl)) (fun _ _ _ h => h) (Or.inl ⟨by rfl, ?_⟩) hHeld ?_ ?_
                  rotate_left
                  · rintro w' ⟨s0, s1, s2, s3, s4⟩
                    go_simp
                    with_reducible rfl
                  rotate_left
                  · simp only [Act.put, List.setIfInBounds_toArray, List.set_cons_zero, List.set_cons_succ, i64_w, i32_w]
                    rfl
                  refine pure_ (i := 14) (N := some 49) (v := ?_) (a' := ?_) #[true, true, true, true, true, true, true, true, true, true, true, true, true, true, true, false, false, false, false, false, false, false, false, false, false, false] rfl rfl (any_of HT_.out (by kernel_rfl)) (fun _ _ _ h => h) (Or.inl ⟨by rfl, ?_⟩) ?_ ?_
                  rotate_left
                  · intro w'
                    go_simp
                    with_reducible rfl
                  rotate_left
                  · simp only [Act.put, List.setIfInBounds_toArray, List.set_cons_zero, List.set_cons_succ, i64_w, i32_w]
                    rfl
                  refine one_ (i := 15) (N := some 50) #[true, true, true, true, true, true, true, true, true, true, true, true, true, true, true, true, false, false, false, false, false, false, false, false, false, false] rfl rfl (one_of HT_.out (by kernel_rfl)) (by decide) (fun K hK => ?_)
                  refine goes_ Try.func62 (by kernel_rfl) rfl #[.slice A0 n0 c0, .func (.func 66) #[] #[.pointer (some ⟨wr.heap.size, 0, none⟩)]] (by rfl) rfl rfl (by (try simp only [List.map_toArray, List.map_cons, List.map_nil]); first | done | rfl) ?_
                  with_reducible refine (HD2.out _ wr.heap.size HBw11.out hHeld.2.2.1 hHeld.2.2.2.1 hHeld.2.2.2.2).mono ?_
                  rintro e w12 ⟨rfl, hb⟩
                  refine ⟨_, rfl, ?_⟩
                  have HBw12 := Aside0.mk (below_step HBw11.out hb)
                  have HQw12 := Aside0.mk (below_step HQw11.out hb)
                  have n_ := lk_keep hb hHeld
                  clear hHeld
                  refine hK.out _ _ n_ (fun hHeld => ?_)
                  clear n_ hb
                  clear hK K
                  refine norm_ (a' := ?_) ?_ ?_
                  rotate_left
                  · show Act.put _ (some 50) _ = _
                    simp only [Act.put, List.setIfInBounds_toArray, List.set_cons_zero, List.set_cons_succ, i64_w, i32_w]
                    rfl
                  refine pure_ (i := 16) (N := some 51) (v := ?_) (a' := ?_) #[true, true, true, true, true, true, true, true, true, true, true, true, true, true, true, true, true, false, false, false, false, false, false, false, false, false] rfl rfl (any_of HT_.out (by kernel_rfl)) (fun _ _ _ h => h) (Or.inl ⟨by rfl, ?_⟩) ?_ ?_
                  rotate_left
                  · intro w'
                    go_simp
                    with_reducible rfl
                  rotate_left
                  · simp only [Act.put, List.setIfInBounds_toArray, List.set_cons_zero, List.set_cons_succ, i64_w, i32_w]
                    rfl
                  refine pure_ (i := 17) (N := some 52) (v := ?_) (a' := ?_) #[true, true, true, true, true, true, true, true, true, true, true, true, true, true, true, true, true, true, false, false, false, false, false, false, false, false] rfl rfl (any_of HT_.out (by kernel_rfl)) (fun _ _ _ h => h) (Or.inl ⟨by rfl, ?_⟩) ?_ ?_
                  rotate_left
                  · intro w'
                    go_simp
                    with_reducible rfl
                  rotate_left
                  · simp only [Act.put, List.setIfInBounds_toArray, List.set_cons_zero, List.set_cons_succ, i64_w, i32_w]
                    rfl
                  refine take_ (i := 18) (N := some 53) (v := ?_) (a' := ?_) #[true, true, true, true, true, true, true, true, true, true, true, true, true, true, true, true, true, true, true, false, false, false, false, false, false, false] rfl rfl (take_ofW HT_.out HW_.out (by kernel_rfl)) (fun _ _ _ h => h) (Or.inl ⟨by rfl, ?_⟩) hHeld ?_ ?_
                  rotate_left
                  · rintro w' ⟨s0, s1, s2, s3, s4⟩
                    go_simp
                    with_reducible rfl
                  rotate_left
                  · simp only [Act.put, List.setIfInBounds_toArray, List.set_cons_zero, List.set_cons_succ, i64_w, i32_w]
                    rfl
                  refine take_ (i := 19) (N := some 54) (v := ?_) (a' := ?_) #[true, true, true, true, true, true, true, true, true, true, true, true, true, true, true, true, true, true, true, true, false, false, false, false, false, false] rfl rfl (take_ofW HT_.out HW_.out (by kernel_rfl)) (fun _ _ _ h => h) (Or.inl ⟨by rfl, ?_⟩) hHeld ?_ ?_
                  rotate_left
                  · rintro w' ⟨s0, s1, s2, s3, s4⟩
                    go_simp
                    with_reducible rfl
                  rotate_left
                  · simp only [Act.put, List.setIfInBounds_toArray, List.set_cons_zero, List.set_cons_succ, i64_w, i32_w]
                    rfl
                  refine pure_ (i := 20) (N := some 55) (v := ?_) (a' := ?_) #[true, true, true, true, true, true, true, true, true, true, true, true, true, true, true, true, true, true, true, true, true, false, false, false, false, false] rfl rfl (any_of HT_.out (by kernel_rfl)) (fun _ _ _ h => h) (Or.inl ⟨by rfl, ?_⟩) ?_ ?_
                  rotate_left
                  · intro w'
                    go_simp
                    with_reducible rfl
                  rotate_left
                  · simp only [Act.put, List.setIfInBounds_toArray, List.set_cons_zero, List.set_cons_succ, i64_w, i32_w]
                    rfl
                  refine take_ (i := 21) (N := some 56) (v := ?_) (a' := ?_) #[true, true, true, true, true, true, true, true, true, true, true, true, true, true, true, true, true, true, true, true, true, true, false, false, false, false] rfl rfl (take_ofW HT_.out HW_.out (by kernel_rfl)) (fun _ _ _ h => h) (Or.inl ⟨by rfl, ?_⟩) hHeld ?_ ?_
                  rotate_left
                  · rintro w' ⟨s0, s1, s2, s3, s4⟩
                    go_simp
                    with_reducible rfl
                  rotate_left
                  · simp only [Act.put, List.setIfInBounds_toArray, List.set_cons_zero, List.set_cons_succ, i64_w, i32_w]
                    rfl
                  refine pure_ (i := 22) (N := some 57) (v := ?_) (a' := ?_) #[true, true, true, true, true, true, true, true, true, true, true, true, true, true, true, true, true, true, true, true, true, true, true, false, false, false] rfl rfl (any_of HT_.out (by kernel_rfl)) (fun _ _ _ h => h) (Or.inl ⟨by rfl, ?_⟩) ?_ ?_
                  rotate_left
                  · intro w'
                    go_simp
                    with_reducible rfl
                  rotate_left
                  · simp only [Act.put, List.setIfInBounds_toArray, List.set_cons_zero, List.set_cons_succ, i64_w, i32_w]
                    rfl
                  refine pure_ (i := 23) (N := some 58) (v := ?_) (a' := ?_) #[true, true, true, true, true, true, true, true, true, true, true, true, true, true, true, true, true, true, true, true, true, true, true, true, false, false] rfl rfl (any_of HT_.out (by kernel_rfl)) (fun _ _ _ h => h) (Or.inl ⟨by rfl, ?_⟩) ?_ ?_
                  rotate_left
                  · intro w'
                    go_simp
                    with_reducible rfl
                  rotate_left
                  · simp only [Act.put, List.setIfInBounds_toArray, List.set_cons_zero, List.set_cons_succ, i64_w, i32_w]
                    rfl
                  refine one_ (i := 24) (N := some 59) #[true, true, true, true, true, true, true, true, true, true, true, true, true, true, true, true, true, true, true, true, true, true, true, true, true, false] rfl rfl (one_of HT_.out (by kernel_rfl)) (by decide) (fun K hK => ?_)
                  refine goes_ Try.func68 (by kernel_rfl) rfl #[.agg #[.slice A0 n0 c0, .slice (some ad) n1 c1], .agg #[.int .i64 a.f0, .int .i64 a.f1, .int .i64 a.f2], .slice (some ad) jj c1] (by rfl) rfl rfl (by (try simp only [List.map_toArray, List.map_cons, List.map_nil]); first | done | rfl) ?_
                  with_reducible refine (HD3.out _ HBw12.out).mono ?_
                  rintro e w13 ⟨rfl, hb⟩
                  refine ⟨_, rfl, ?_⟩
                  have HBw13 := Aside0.mk (below_step HBw12.out hb)
                  have HQw13 := Aside0.mk (below_step HQw12.out hb)
                  have n_ := lk_keep hb hHeld
                  clear hHeld
                  refine hK.out _ _ n_ (fun hHeld => ?_)
                  clear n_ hb
                  clear hK K
                  refine norm_ (a' := ?_) ?_ ?_
                  rotate_left
                  · show Act.put _ (some 59) _ = _
                    simp only [Act.put, List.setIfInBounds_toArray, List.set_cons_zero, List.set_cons_succ, i64_w, i32_w]
                    rfl
                  refine pure_ (i := 25) (N := some 60) (v := ?_) (a' := ?_) #[true, true, true, true, true, true, true, true, true, true, true, true, true, true, true, true, true, true, true, true, true, true, true, true, true, true] rfl rfl (any_of HT_.out (by kernel_rfl)) (fun _ _ _ h => h) (Or.inl ⟨by rfl, ?_⟩) ?_ ?_
                  rotate_left
                  · intro w'
                    go_simp
                    with_reducible rfl
                  rotate_left
                  · simp only [Act.put, List.setIfInBounds_toArray, List.set_cons_zero, List.set_cons_succ, i64_w, i32_w]
                    rfl
                  refine done_ (done_of HT_.out (by kernel_rfl)) ?_
                  go_wp2
                  go_ret
                  exact ⟨by rw [lk_no1 l0 l1 jj HLT.out (by rw [HAT.out]; rfl)]; rfl, HBw13.out⟩
                | false =>
                  go_wp2
                  refine start_ (n := 26) (S := (fun w' => w'.cell? ⟨gl, 0, none⟩ = some (.slice A0 n0 c0) ∧ w'.cell? ⟨gl, 1, none⟩ = some (.slice (some ad) n1 c1) ∧ w'.cell? ⟨wr.heap.size, 0, none⟩ = some (.int .i64 a.f0) ∧ w'.cell? ⟨wr.heap.size, 1, none⟩ = some (.int .i64 a.f1) ∧ w'.cell? ⟨wr.heap.size, 2, none⟩ = some (.int .i64 a.f2))) (ds := []) #[false, false, false, false, false, false, false, false, false, false, false, false, false, false, false, false, false, false, false, false, false, false, false, false, false, false] (by kernel_rfl) rfl rfl HS0.out (fun hHeld => ?_); refine with_tabW lk_tab10 lk_bits10 (fun HT_ HW_ => ?_)
                  have HBw9 : Aside0 (Below w.heap.size w (wr.alloc (.cells #[.int .i64 a.f0, .int .i64 a.f1, .int .i64 a.f2] 61)).drew) := ⟨below_drew1 (below_alloc HWQ.out _)⟩
                  have HQw9 := Aside0.mk (below_drew1 (below_alloc BW2.out (.cells #[.int .i64 a.f0, .int .i64 a.f1, .int .i64 a.f2] 61)))
                  generalize (wr.alloc (.cells #[.int .i64 a.f0, .int .i64 a.f1, .int .i64 a.f2] 61)).drew = w9 at hHeld HBw9 HQw9 ⊢
                  refine take_ (i := 0) (N := some 35) (v := ?_) (a' := ?_) #[true, false, false, false, false, false, false, false, false, false, false, false, false, false, false, false, false, false, false, false, false, false, false, false, false, false] rfl rfl (take_ofW HT_.out HW_.out (by kernel_rfl)) (fun _ _ _ h => h) (Or.inl ⟨by rfl, ?_⟩) hHeld ?_ ?_
                  rotate_left
                  · rintro w' ⟨s0, s1, s2, s3, s4⟩
                    go_simp
                    with_reducible rfl
                  rotate_left
                  · simp only [Act.put, List.setIfInBounds_toArray, List.set_cons_zero, List.set_cons_succ, i64_w, i32_w]
                    rfl
                  refine one_ (i := 1) (N := some 36) #[true, true, false, false, false, false, false, false, false, false, false, false, false, false, false, false, false, false, false, false, false, false, false, false, false, false] rfl rfl (one_of HT_.out (by kernel_rfl)) (by decide) (fun K hK => ?_)
                  refine goes_ Try.func61 (by kernel_rfl) rfl #[.agg #[.int .i64 a.f0, .int .i64 a.f1, .int .i64 a.f2]] (by rfl) rfl rfl (by (try simp only [List.map_toArray, List.map_cons, List.map_nil]); first | done | rfl) ?_
                  with_reducible refine (impl_Ask_ok.calls a.f0 a.f1 a.f2 true _ HOK.out).mono ?_
                  rintro e w10 ⟨rfl, hb⟩
                  refine ⟨_, rfl, ?_⟩
                  have HBw10 := Aside0.mk (below_step HBw9.out hb)
                  have HQw10 := Aside0.mk (below_step HQw9.out hb)
                  have n_ := lk_keep hb hHeld
                  clear hHeld
                  refine hK.out _ _ n_ (fun hHeld => ?_)
                  clear n_ hb
                  clear hK K
                  refine norm_ (a' := ?_) ?_ ?_
                  rotate_left
                  · show Act.put _ (some 36) _ = _
                    simp only [Act.put, List.setIfInBounds_toArray, List.set_cons_zero, List.set_cons_succ, i64_w, i32_w]
                    rfl
                  refine pure_ (i := 2) (N := some 37) (v := ?_) (a' := ?_) #[true, true, true, false, false, false, false, false, false, false, false, false, false, false, false, false, false, false, false, false, false, false, false, false, false, false] rfl rfl (any_of HT_.out (by kernel_rfl)) (fun _ _ _ h => h) (Or.inl ⟨by rfl, ?_⟩) ?_ ?_
                  rotate_left
                  · intro w'
                    go_simp
                    with_reducible rfl
                  rotate_left
                  · simp only [Act.put, List.setIfInBounds_toArray, List.set_cons_zero, List.set_cons_succ, i64_w, i32_w]
                    rfl
                  refine pure_ (i := 3) (N := some 38) (v := ?_) (a' := ?_) #[true, true, true, true, false, false, false, false, false, false, false, false, false, false, false, false, false, false, false, false, false, false, false, false, false, false] rfl rfl (any_of HT_.out (by kernel_rfl)) (fun _ _ _ h => h) (Or.inl ⟨by rfl, ?_⟩) ?_ ?_
                  rotate_left
                  · intro w'
                    go_simp
                    with_reducible rfl
                  rotate_left
                  · simp only [Act.put, List.setIfInBounds_toArray, List.set_cons_zero, List.set_cons_succ, i64_w, i32_w]
                    rfl
                  refine pure_ (i := 4) (N := some 39) (v := ?_) (a' := ?_) #[true, true, true, true, true, false, false, false, false, false, false, false, false, false, false, false, false, false, false, false, false, false, false, false, false, false] rfl rfl (any_of HT_.out (by kernel_rfl)) (fun _ _ _ h => h) (Or.inl ⟨by rfl, ?_⟩) ?_ ?_
                  rotate_left
                  · intro w'
                    go_simp
                    with_reducible rfl
                  rotate_left
                  · simp only [Act.put, List.setIfInBounds_toArray, List.set_cons_zero, List.set_cons_succ, i64_w, i32_w]
                    rfl
                  refine take_ (i := 5) (N := some 40) (v := ?_) (a' := ?_) #[true, true, true, true, true, true, false, false, false, false, false, false, false, false, false, false, false, false, false, false, false, false, false, false, false, false] rfl rfl (take_ofW HT_.out HW_.out (by kernel_rfl)) (fun _ _ _ h => h) (Or.inl ⟨by rfl, ?_⟩) hHeld ?_ ?_
                  rotate_left
                  · rintro w' ⟨s0, s1, s2, s3, s4⟩
                    go_simp
                    with_reducible rfl
                  rotate_left
                  · simp only [Act.put, List.setIfInBounds_toArray, List.set_cons_zero, List.set_cons_succ, i64_w, i32_w]
                    rfl
                  refine pure_ (i := 6) (N := some 41) (v := ?_) (a' := ?_) #[true, true, true, true, true, true, true, false, false, false, false, false, false, false, false, false, false, false, false, false, false, false, false, false, false, false] rfl rfl (any_of HT_.out (by kernel_rfl)) (fun _ _ _ h => h) (Or.inl ⟨by rfl, ?_⟩) ?_ ?_
                  rotate_left
                  · intro w'
                    go_simp
                    with_reducible rfl
                  rotate_left
                  · simp only [Act.put, List.setIfInBounds_toArray, List.set_cons_zero, List.set_cons_succ, i64_w, i32_w]
                    rfl
                  refine pure_ (i := 7) (N := some 42) (v := ?_) (a' := ?_) #[true, true, true, true, true, true, true, true, false, false, false, false, false, false, false, false, false, false, false, false, false, false, false, false, false, false] rfl rfl (any_of HT_.out (by kernel_rfl)) (fun _ _ _ h => h) (Or.inl ⟨by rfl, ?_⟩) ?_ ?_
                  rotate_left
                  · intro w'
                    go_simp
                    with_reducible rfl
                  rotate_left
                  · simp only [Act.put, List.setIfInBounds_toArray, List.set_cons_zero, List.set_cons_succ, i64_w, i32_w]
                    rfl
                  refine pure_ (i := 8) (N := some 43) (v := ?_) (a' := ?_) #[true, true, true, true, true, true, true, true, true, false, false, false, false, false, false, false, false, false, false, false, false, false, false, false, false, false] rfl rfl (any_of HT_.out (by kernel_rfl)) (fun _ _ _ h => h) (Or.inl ⟨by rfl, ?_⟩) ?_ ?_
                  rotate_left
                  · intro w'
                    go_simp
                    with_reducible rfl
                  rotate_left
                  · simp only [Act.put, List.setIfInBounds_toArray, List.set_cons_zero, List.set_cons_succ, i64_w, i32_w]
                    rfl
                  refine one_ (i := 9) (N := some 44) #[true, true, true, true, true, true, true, true, true, true, false, false, false, false, false, false, false, false, false, false, false, false, false, false, false, false] rfl rfl (one_of HT_.out (by kernel_rfl)) (by decide) (fun K hK => ?_)
                  refine goes_ Try.func62 (by kernel_rfl) rfl #[.slice (some ad) jj c1, .func (.func 65) #[] #[.pointer (some ⟨wr.heap.size, 0, none⟩)]] (by rfl) rfl rfl (by (try simp only [List.map_toArray, List.map_cons, List.map_nil]); first | done | rfl) ?_
                  with_reducible refine (HD1.out _ wr.heap.size HBw10.out hHeld.2.2.1 hHeld.2.2.2.1 hHeld.2.2.2.2).mono ?_
                  rintro e w11 ⟨rfl, hb⟩
                  refine ⟨_, rfl, ?_⟩
                  have HBw11 := Aside0.mk (below_step HBw10.out hb)
                  have HQw11 := Aside0.mk (below_step HQw10.out hb)
                  have n_ := lk_keep hb hHeld
                  clear hHeld
                  refine hK.out _ _ n_ (fun hHeld => ?_)
                  clear n_ hb
                  clear hK K
                  refine norm_ (a' := ?_) ?_ ?_
                  rotate_left
                  · show Act.put _ (some 44) _ = _
                    simp only [Act.put, List.setIfInBounds_toArray, List.set_cons_zero, List.set_cons_succ, i64_w, i32_w]
                    rfl
                  refine pure_ (i := 10) (N := some 45) (v := ?_) (a' := ?_) #[true, true, true, true, true, true, true, true, true, true, true, false, false, false, false, false, false, false, false, false, false, false, false, false, false, false] rfl rfl (any_of HT_.out (by kernel_rfl)) (fun _ _ _ h => h) (Or.inl ⟨by rfl, ?_⟩) ?_ ?_
                  rotate_left
                  · intro w'
                    go_simp
                    with_reducible rfl
                  rotate_left
                  · simp only [Act.put, List.setIfInBounds_toArray, List.set_cons_zero, List.set_cons_succ, i64_w, i32_w]
                    rfl
                  refine pure_ (i := 11) (N := some 46) (v := ?_) (a' := ?_) #[true, true, true, true, true, true, true, true, true, true, true, true, false, false, false, false, false, false, false, false, false, false, false, false, false, false] rfl rfl (any_of HT_.out (by kernel_rfl)) (fun _ _ _ h => h) (Or.inl ⟨by rfl, ?_⟩) ?_ ?_
                  rotate_left
                  · intro w'
                    go_simp
                    with_reducible rfl
                  rotate_left
                  · simp only [Act.put, List.setIfInBounds_toArray, List.set_cons_zero, List.set_cons_succ, i64_w, i32_w]
                    rfl
                  refine pure_ (i := 12) (N := some 47) (v := ?_) (a' := ?_) #[true, true, true, true, true, true, true, true, true, true, true, true, true, false, false, false, false, false, false, false, false, false, false, false, false, false] rfl rfl (any_of HT_.out (by kernel_rfl)) (fun _ _ _ h => h) (Or.inl ⟨by rfl, ?_⟩) ?_ ?_
                  rotate_left
                  · intro w'
                    go_simp
                    with_reducible rfl
                  rotate_left
                  · simp only [Act.put, List.setIfInBounds_toArray, List.set_cons_zero, List.set_cons_succ, i64_w, i32_w]
                    rfl
                  refine take_ (i := 13) (N := some 48) (v := ?_) (a' := ?_) #[true, true, true, true, true, true, true, true, true, true, true, true, true, true, false, false, false, false, false, false, false, false, false, false, false, false] rfl rfl (take_ofW HT_.out HW_.out (by kernel_rfl)) (fun _ _ _ h => h) (Or.inl ⟨by rfl, ?_⟩) hHeld ?_ ?_
                  rotate_left
                  · rintro w' ⟨s0, s1, s2, s3, s4⟩
                    go_simp
                    with_reducible rfl
                  rotate_left
                  · simp only [Act.put, List.setIfInBounds_toArray, List.set_cons_zero, List.set_cons_succ, i64_w, i32_w]
                    rfl
                  refine pure_ (i := 14) (N := some 49) (v := ?_) (a' := ?_) #[true, true, true, true, true, true, true, true, true, true, true, true, true, true, true, false, false, false, false, false, false, false, false, false, false, false] rfl rfl (any_of HT_.out (by kernel_rfl)) (fun _ _ _ h => h) (Or.inl ⟨by rfl, ?_⟩) ?_ ?_
                  rotate_left
                  · intro w'
                    go_simp
                    with_reducible rfl
                  rotate_left
                  · simp only [Act.put, List.setIfInBounds_toArray, List.set_cons_zero, List.set_cons_succ, i64_w, i32_w]
                    rfl
                  refine one_ (i := 15) (N := some 50) #[true, true, true, true, true, true, true, true, true, true, true, true, true, true, true, true, false, false, false, false, false, false, false, false, false, false] rfl rfl (one_of HT_.out (by kernel_rfl)) (by decide) (fun K hK => ?_)
                  refine goes_ Try.func62 (by kernel_rfl) rfl #[.slice A0 n0 c0, .func (.func 66) #[] #[.pointer (some ⟨wr.heap.size, 0, none⟩)]] (by rfl) rfl rfl (by (try simp only [List.map_toArray, List.map_cons, List.map_nil]); first | done | rfl) ?_
                  with_reducible refine (HD2.out _ wr.heap.size HBw11.out hHeld.2.2.1 hHeld.2.2.2.1 hHeld.2.2.2.2).mono ?_
                  rintro e w12 ⟨rfl, hb⟩
                  refine ⟨_, rfl, ?_⟩
                  have HBw12 := Aside0.mk (below_step HBw11.out hb)
                  have HQw12 := Aside0.mk (below_step HQw11.out hb)
                  have n_ := lk_keep hb hHeld
                  clear hHeld
                  refine hK.out _ _ n_ (fun hHeld => ?_)
                  clear n_ hb
                  clear hK K
                  refine norm_ (a' := ?_) ?_ ?_
                  rotate_left
                  · show Act.put _ (some 50) _ = _
                    simp only [Act.put, List.setIfInBounds_toArray, List.set_cons_zero, List.set_cons_succ, i64_w, i32_w]
                    rfl
                  refine pure_ (i := 16) (N := some 51) (v := ?_) (a' := ?_) #[true, true, true, true, true, true, true, true, true, true, true, true, true, true, true, true, true, false, false, false, false, false, false, false, false, false] rfl rfl (any_of HT_.out (by kernel_rfl)) (fun _ _ _ h => h) (Or.inl ⟨by rfl, ?_⟩) ?_ ?_
                  rotate_left
                  · intro w'
                    go_simp
                    with_reducible rfl
                  rotate_left
                  · simp only [Act.put, List.setIfInBounds_toArray, List.set_cons_zero, List.set_cons_succ, i64_w, i32_w]
                    rfl
                  refine pure_ (i := 17) (N := some 52) (v := ?_) (a' := ?_) #[true, true, true, true, true, true, true, true, true, true, true, true, true, true, true, true, true, true, false, false, false, false, false, false, false, false] rfl rfl (any_of HT_.out (by kernel_rfl)) (fun _ _ _ h => h) (Or.inl ⟨by rfl, ?_⟩) ?_ ?_
                  rotate_left
                  · intro w'
                    go_simp
                    with_reducible rfl
                  rotate_left
                  · simp only [Act.put, List.setIfInBounds_toArray, List.set_cons_zero, List.set_cons_succ, i64_w, i32_w]
                    rfl
                  refine take_ (i := 18) (N := some 53) (v := ?_) (a' := ?_) #[true, true, true, true, true, true, true, true, true, true, true, true, true, true, true, true, true, true, true, false, false, false, false, false, false, false] rfl rfl (take_ofW HT_.out HW_.out (by kernel_rfl)) (fun _ _ _ h => h) (Or.inl ⟨by rfl, ?_⟩) hHeld ?_ ?_
                  rotate_left
                  · rintro w' ⟨s0, s1, s2, s3, s4⟩
                    go_simp
                    with_reducible rfl
                  rotate_left
                  · simp only [Act.put, List.setIfInBounds_toArray, List.set_cons_zero, List.set_cons_succ, i64_w, i32_w]
                    rfl
                  refine take_ (i := 19) (N := some 54) (v := ?_) (a' := ?_) #[true, true, true, true, true, true, true, true, true, true, true, true, true, true, true, true, true, true, true, true, false, false, false, false, false, false] rfl rfl (take_ofW HT_.out HW_.out (by kernel_rfl)) (fun _ _ _ h => h) (Or.inl ⟨by rfl, ?_⟩) hHeld ?_ ?_
                  rotate_left
                  · rintro w' ⟨s0, s1, s2, s3, s4⟩
                    go_simp
                    with_reducible rfl
                  rotate_left
                  · simp only [Act.put, List.setIfInBounds_toArray, List.set_cons_zero, List.set_cons_succ, i64_w, i32_w]
                    rfl
                  refine pure_ (i := 20) (N := some 55) (v := ?_) (a' := ?_) #[true, true, true, true, true, true, true, true, true, true, true, true, true, true, true, true, true, true, true, true, true, false, false, false, false, false] rfl rfl (any_of HT_.out (by kernel_rfl)) (fun _ _ _ h => h) (Or.inl ⟨by rfl, ?_⟩) ?_ ?_
                  rotate_left
                  · intro w'
                    go_simp
                    with_reducible rfl
                  rotate_left
                  · simp only [Act.put, List.setIfInBounds_toArray, List.set_cons_zero, List.set_cons_succ, i64_w, i32_w]
                    rfl
                  refine take_ (i := 21) (N := some 56) (v := ?_) (a' := ?_) #[true, true, true, true, true, true, true, true, true, true, true, true, true, true, true, true, true, true, true, true, true, true, false, false, false, false] rfl rfl (take_ofW HT_.out HW_.out (by kernel_rfl)) (fun _ _ _ h => h) (Or.inl ⟨by rfl, ?_⟩) hHeld ?_ ?_
                  rotate_left
                  · rintro w' ⟨s0, s1, s2, s3, s4⟩
                    go_simp
                    with_reducible rfl
                  rotate_left
                  · simp only [Act.put, List.setIfInBounds_toArray, List.set_cons_zero, List.set_cons_succ, i64_w, i32_w]
                    rfl
                  refine pure_ (i := 22) (N := some 57) (v := ?_) (a' := ?_) #[true, true, true, true, true, true, true, true, true, true, true, true, true, true, true, true, true, true, true, true, true, true, true, false, false, false] rfl rfl (any_of HT_.out (by kernel_rfl)) (fun _ _ _ h => h) (Or.inl ⟨by rfl, ?_⟩) ?_ ?_
                  rotate_left
                  · intro w'
                    go_simp
                    with_reducible rfl
                  rotate_left
                  · simp only [Act.put, List.setIfInBounds_toArray, List.set_cons_zero, List.set_cons_succ, i64_w, i32_w]
                    rfl
                  refine pure_ (i := 23) (N := some 58) (v := ?_) (a' := ?_) #[true, true, true, true, true, true, true, true, true, true, true, true, true, true, true, true, true, true, true, true, true, true, true, true, false, false] rfl rfl (any_of HT_.out (by kernel_rfl)) (fun _ _ _ h => h) (Or.inl ⟨by rfl, ?_⟩) ?_ ?_
                  rotate_left
                  · intro w'
                    go_simp
                    with_reducible rfl
                  rotate_left
                  · simp only [Act.put, List.setIfInBounds_toArray, List.set_cons_zero, List.set_cons_succ, i64_w, i32_w]
                    rfl
                  refine one_ (i := 24) (N := some 59) #[true, true, true, true, true, true, true, true, true, true, true, true, true, true, true, true, true, true, true, true, true, true, true, true, true, false] rfl rfl (one_of HT_.out (by kernel_rfl)) (by decide) (fun K hK => ?_)
                  refine goes_ Try.func68 (by kernel_rfl) rfl #[.agg #[.slice A0 n0 c0, .slice (some ad) n1 c1], .agg #[.int .i64 a.f0, .int .i64 a.f1, .int .i64 a.f2], .slice (some ad) jj c1] (by rfl) rfl rfl (by (try simp only [List.map_toArray, List.map_cons, List.map_nil]); first | done | rfl) ?_
                  with_reducible refine (HD3.out _ HBw12.out).mono ?_
                  rintro e w13 ⟨rfl, hb⟩
                  refine ⟨_, rfl, ?_⟩
                  have HBw13 := Aside0.mk (below_step HBw12.out hb)
                  have HQw13 := Aside0.mk (below_step HQw12.out hb)
                  have n_ := lk_keep hb hHeld
                  clear hHeld
                  refine hK.out _ _ n_ (fun hHeld => ?_)
                  clear n_ hb
                  clear hK K
                  refine norm_ (a' := ?_) ?_ ?_
                  rotate_left
                  · show Act.put _ (some 59) _ = _
                    simp only [Act.put, List.setIfInBounds_toArray, List.set_cons_zero, List.set_cons_succ, i64_w, i32_w]
                    rfl
                  refine pure_ (i := 25) (N := some 60) (v := ?_) (a' := ?_) #[true, true, true, true, true, true, true, true, true, true, true, true, true, true, true, true, true, true, true, true, true, true, true, true, true, true] rfl rfl (any_of HT_.out (by kernel_rfl)) (fun _ _ _ h => h) (Or.inl ⟨by rfl, ?_⟩) ?_ ?_
                  rotate_left
                  · intro w'
                    go_simp
                    with_reducible rfl
                  rotate_left
                  · simp only [Act.put, List.setIfInBounds_toArray, List.set_cons_zero, List.set_cons_succ, i64_w, i32_w]
                    rfl
                  refine done_ (done_of HT_.out (by kernel_rfl)) ?_
                  go_wp2
                  go_roundg (n1 - (jj + 1))
                  case measure => omega
                  case rel =>
                    refine ⟨jj + 1, by omega, by omega, by go_num, ⟨HQw13.out⟩, ⟨fun j hj => ?_⟩⟩
                    by_cases e : j = jj
                    · rw [e, HAT.out]; rfl
                    · exact AL2.out j (by omega)
        · have hltz2 : decide ((jj : Int) < (n1 : Int)) = false := decide_eq_false (by omega)
          go_wp2
          go_ret
          exact ⟨by rw [lk_yes l0 l1 HALL.out (fun j hj => AL2.out j (by rw [HN1.out] at hj; omega))]; rfl, below_step HWR.out BW2.out⟩
def impl_LocksOk.f (l0_0 : List LA) (l0_1 : List LA) : Option Bool := some (lk_all l0_0 l0_1)
theorem impl_LocksOk.calls (A0_0 : Option Addr) (c0_0 : Nat) (l0_0 : List LA) (A0_1 : Option Addr) (c0_1 : Nat) (l0_1 : List LA) (r : Bool) (w : World) (hr0_0 : Kd.C k61 w A0_0 l0_0.length l0_0) (hc0_0 : l0_0.length ≤ c0_0) (hr0_1 : Kd.C k61 w A0_1 l0_1.length l0_1) (hc0_1 : l0_1.length ≤ c0_1) (h : impl_LocksOk.f l0_0 l0_1 = some r) :
    Calls Try.prog 27 #[.agg #[.slice A0_0 l0_0.length c0_0, .slice A0_1 l0_1.length c0_1]] w fun e w' => e = .returned (.bool r) ∧ Below w.heap.size w w' := by
  obtain rfl := Option.some.inj h
  exact lk_LocksOk A0_0 c0_0 l0_0 A0_1 c0_1 l0_1 w hr0_0 hc0_0 hr0_1 hc0_1
end

end Go.Proofs.Ytalhkihppcjanaa.X
