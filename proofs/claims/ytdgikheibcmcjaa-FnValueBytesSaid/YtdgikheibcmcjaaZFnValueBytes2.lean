/- Plain functions for the Go functions of this seat, and proofs that each call answers as its plain function does; made by this session's program over the kit's printer. -/
import Derived.Test.YtdgikheibcmcjaaX0
import Derived.Test.YtdgikheibcmcjaaZFnValueBytes1
namespace Go.Proofs.Ytdgikheibcmcjaa.X
open Go.RowKit Go.Proofs.YtdgikheibcmcjaaV.PrintWords Go.Proofs.YtdgikheibcmcjaaV.PrintLast Go.Proofs.YtdgikheibcmcjaaV.PrintMore
attribute [local go_sem] max2_int min2_int max_two min_two max_three min_three max_four min_four   -- for this text's walks alone
set_option linter.unusedVariables false
set_option linter.unusedSimpArgs false

section
/-! ### impl_ValueBytes: function 18 -/
theorem impl_ValueBytes.clip (A0 : Option Addr) (n c : Nat) (w : World) (hn : n ≤ c) :
    Calls Try.prog 47 #[.slice A0 n c] w fun e w' => e = .returned (.slice A0 n n) ∧ w' = w := by
  have hu25 := Try.underlying25
  have h0 : decide ((0 : Int) ≤ (n : Int)) = true := decide_eq_true (by omega)
  have h1 : decide ((n : Int) ≤ (c : Int)) = true := decide_eq_true (by omega)
  have h2 : decide ((n : Int) ≤ (n : Int)) = true := decide_eq_true (by omega)
  go_enter Try.func47, Try.ntmps47
  go_wp2
  go_ret
  exact ⟨rfl, rfl⟩
def impl_ValueBytes.f (a0_0 : Int) (a0_1 : Int) (a0_2 : ByteArray) : Option (List Int) := (impl_Value_ok.f a0_0 a0_1 a0_2).bind fun t => (if t = true then impl_Value_bytes.f a0_0 a0_1 a0_2 else some [])
set_option maxHeartbeats 8000000 in
set_option maxRecDepth 100000 in
theorem impl_ValueBytes.calls (a0_0 : Int) (a0_1 : Int) (a0_2 : ByteArray) (r : List Int) (w : World) (h : impl_ValueBytes.f a0_0 a0_1 a0_2 = some r) :
    Calls Try.prog 18 #[.agg #[.int .i64 a0_0, .int .i64 a0_1, .string a0_2]] w fun e w' => ∃ v0_ : Value, e = .returned (v0_) ∧ Kd.R (Kd.int .u8) 5 w' w.heap.size (fun _ => True) v0_ r ∧ Below w.heap.size w w' := by
  have hu27 := Try.underlying27
  unfold impl_ValueBytes.f at h
  obtain ⟨t, ht, h⟩ := Option.bind_eq_some_iff.mp h
  have HT := Aside0.mk ht
  clear ht
  cases t with
  | false =>
    rw [if_neg (by decide)] at h
    obtain rfl := Option.some.inj h
    clear h
    go_enter Try.func18, Try.ntmps18
    go_wp2_with (first | ((with_reducible refine gate_dst (N := 1) rfl ?_); refine box_event ?hg (N := 1) ?hd (cs := #[.int .i64 a0_0, .int .i64 a0_1, .string a0_2]) (t := 27) ?hr ?_; (case hd => rfl); (case hg => rfl); (case hr => first | (go_simp; done) | (go_simp; rfl)); intro gb hg w1 hbox hb1; have hcgb_0 : w1.cell? ⟨gb, 0, none⟩ = some (.int .i64 a0_0) := (blk_cell hbox 0).trans rfl; have hcgb_1 : w1.cell? ⟨gb, 1, none⟩ = some (.int .i64 a0_1) := (blk_cell hbox 1).trans rfl; have hcgb_2 : w1.cell? ⟨gb, 2, none⟩ = some (.string a0_2) := (blk_cell hbox 2).trans rfl; have HBw1 := Aside0.mk hb1; clear hbox hb1 hg) | (go_at_call 46; (with_reducible refine (impl_Value_ok.calls a0_0 a0_1 a0_2 false _ HT.out).mono ?_); rintro e w2 ⟨rfl, hb2⟩; have HBw2 := Aside0.mk hb2; clear hb2))
    go_ret
    exact ⟨_, rfl, Kd.R_nil _ _ _ _ _, below_step HBw1.out HBw2.out⟩
  | true =>
    rw [if_pos rfl] at h
    have HY := Aside0.mk h
    clear h
    go_enter Try.func18, Try.ntmps18
    go_wp2_with (first | ((with_reducible refine gate_dst (N := 1) rfl ?_); refine box_event ?hg (N := 1) ?hd (cs := #[.int .i64 a0_0, .int .i64 a0_1, .string a0_2]) (t := 27) ?hr ?_; (case hd => rfl); (case hg => rfl); (case hr => first | (go_simp; done) | (go_simp; rfl)); intro gb hg w1 hbox hb1; have hcgb_0 : w1.cell? ⟨gb, 0, none⟩ = some (.int .i64 a0_0) := (blk_cell hbox 0).trans rfl; have hcgb_1 : w1.cell? ⟨gb, 1, none⟩ = some (.int .i64 a0_1) := (blk_cell hbox 1).trans rfl; have hcgb_2 : w1.cell? ⟨gb, 2, none⟩ = some (.string a0_2) := (blk_cell hbox 2).trans rfl; have HBw1 := Aside0.mk hb1; clear hbox hb1 hg) | (go_at_call 46; (with_reducible refine (impl_Value_ok.calls a0_0 a0_1 a0_2 true _ HT.out).mono ?_); rintro e w2 ⟨rfl, hb2⟩; have HBw2 := Aside0.mk hb2; replace hcgb_0 := pw_cell_below hb2 hcgb_0; replace hcgb_1 := pw_cell_below hb2 hcgb_1; replace hcgb_2 := pw_cell_below hb2 hcgb_2; clear hb2) | (go_at_call 48; (with_reducible refine (impl_Value_bytes.calls a0_0 a0_1 a0_2 _ _ HY.out).mono ?_); rintro e w3 ⟨v3, rfl, ho3, hb3⟩; have HO3 := Aside0.mk ho3; have HBw3 := Aside0.mk hb3; clear ho3 hb3; obtain ⟨A3, c3, e3⟩ := Kd.R_slice HO3.out; subst e3) | (go_at_call 47; (with_reducible refine (impl_ValueBytes.clip _ _ _ _ ?sideq).mono ?_); (case sideq => exact (Kd.R_reads' HO3.out).2.1); rintro e w4 ⟨rfl, rfl⟩))
    go_ret
    have hb := below_step HBw1.out HBw2.out
    exact ⟨_, rfl, Kd.R_lower (Kd.R_clip HO3.out) (below_size hb), below_step hb HBw3.out⟩
end

end Go.Proofs.Ytdgikheibcmcjaa.X
