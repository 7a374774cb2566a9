/- What an argument that reads as plain data is, told by the kinds of the printed proofs: integers, bools, strings, structs and slices, nested as they may be; no condition beyond the reading. -/
import Derived.Test.YtalhkihppcjanaaVWords
import Derived.ChangeArms
import Derived.DataReads
import Derived.WideShapes
set_option linter.unusedVariables false
namespace Go.Proofs.YtalhkihppcjanaaV.PrintWords
open Go.RowKit

/-- Whatever reads as data of type t is one of the kind d, and G holds of it. -/
def Opens (P : Program) (t : TypeId) {α : Type} (d : Kd α) (G : α → Prop) : Prop :=
  ∀ (H : Type) (enc : TypeId × Value → H) (w : World) (base : Nat) (spare : Nat → Bool) (held : Bool) (fuel : Nat) (cs : List Value) (x : DataW H × List MemPlace),
    DataW.trod enc P w base spare held fuel t cs = some x → ∃ a : α, d.K w a cs ∧ G a

/-- The fields of a struct from a place on. -/
def OpensF (P : Program) (L : Nat) (fs : List Field) (off : Nat) {α : Type} (d : Kd α) (G : α → Prop) : Prop :=
  ∀ (H : Type) (enc : TypeId × Value → H) (w : World) (base : Nat) (spare : Nat → Bool) (held : Bool) (n : Nat) (cs : List Value), cs.length = L →
    (∀ f ∈ fs, ∃ y, DataW.trod enc P w base spare held n f.type ((cs.drop f.offset).take (P.cellsOf f.type)) = some y) → ∃ a : α, d.K w a (cs.drop off) ∧ G a

namespace Opens
variable {P : Program} {t e : TypeId} {α β : Type} {d : Kd α} {G : α → Prop}

theorem int {k : IntKind} (ht : P.underlying t = some (.int k)) : Opens P t (Kd.int k) (fun n => (Lit.int k n).wf = true) := by
  intro H enc w base spare held fuel cs x h
  obtain ⟨n, rfl, _, hw⟩ := DataW.trod_int ht h
  exact ⟨n, rfl, hw⟩

theorem bool (ht : P.underlying t = some .bool) : Opens P t Kd.bool (fun _ => True) := by
  intro H enc w base spare held fuel cs x h
  obtain ⟨b, rfl, _⟩ := DataW.trod_bool ht h
  exact ⟨b, rfl, trivial⟩

theorem string (ht : P.underlying t = some .string) : Opens P t Kd.string (fun s => s.size ≤ maxLen) := by
  intro H enc w base spare held fuel cs x h
  obtain ⟨s, rfl, _, hs⟩ := DataW.trod_string ht h
  exact ⟨s, rfl, hs⟩

theorem iso (h : Opens P t d G) (f : β → α) (g : α → β) (hfg : ∀ a, f (g a) = a) : Opens P t (Kd.iso d f) (fun b => G (f b)) := by
  intro H enc w base spare held fuel cs x hx
  obtain ⟨a, hk, hg⟩ := h H enc w base spare held fuel cs x hx
  exact ⟨g a, by show d.K w (f (g a)) cs; rw [hfg]; exact hk, by show G (f (g a)); rw [hfg]; exact hg⟩

theorem slice (ht : P.underlying t = some (.slice e)) (hc : P.cellsOf e = d.sz) (h : Opens P e d G) : Opens P t (Kd.slice e d) (fun xs => xs.length ≤ maxLen ∧ ∀ x ∈ xs, G x) := by
  intro H enc w base spare held fuel cs x hx
  rcases DataW.trod_slice ht hx with ⟨rfl, _⟩ | ⟨a, len, cap, elems, rest, n, _, rfl, _, hb, hl, hm, hlen, hel, _, _⟩
  · exact ⟨[], ⟨none, 0, rfl, Nat.le_refl _, rfl, Nat.zero_le _, fun h0 => absurd h0 (Nat.lt_irrefl _)⟩, Nat.zero_le _, fun x hx => by cases hx⟩
  · have each : ∀ i : Fin len, ∃ p : α, ∃ c : List Value, d.K w p c ∧ G p ∧ c.length = d.sz ∧ ∀ q u, c[q]? = some u → w.cell? (a.add (i.val * d.sz + q)) = some u := by
      intro i
      have h1 := hel i.val i.isLt
      rw [List.getElem?_eq_getElem (by rw [hlen]; exact i.isLt)] at h1
      obtain ⟨c, hcs, htr⟩ := Option.bind_eq_some_iff.1 h1
      obtain ⟨p, hk, hg⟩ := h H enc w base spare held n c _ htr
      obtain ⟨_, hcl, hcell⟩ := World.cells?_some hcs
      refine ⟨p, c, hk, hg, d.K_len hk, fun q u hq => ?_⟩
      have hql : q < c.length := (List.getElem?_eq_some_iff.1 hq).1
      rw [← add_add, ← hc]
      exact (hcell q (by rw [← hcl]; exact hql)).trans hq
    obtain ⟨f, hf⟩ := Classical.axiomOfChoice each
    refine ⟨List.ofFn f, ⟨some a, cap, by rw [List.length_ofFn], by rw [List.length_ofFn]; exact hl, ?_⟩, by rw [List.length_ofFn]; omega, fun x hx => ?_⟩
    · rw [List.length_ofFn]
      refine ⟨List.length_ofFn, by have := hm; simp only [maxLen] at this; omega, fun _ => ⟨a, rfl, fun j p hj => ?_⟩⟩
      have hjl : j < len := by
        have := (List.getElem?_eq_some_iff.1 hj).1
        rwa [List.length_ofFn] at this
      obtain ⟨c, hk, _, hcl, hcell⟩ := hf ⟨j, hjl⟩
      have hp : f ⟨j, hjl⟩ = p := by
        rw [List.getElem?_ofFn, dif_pos hjl] at hj
        exact Option.some.inj hj
      rw [← hp]
      exact ⟨c, hcl, hk, hcell⟩
    · obtain ⟨i, hi⟩ := List.mem_iff_getElem?.1 hx
      have hil : i < len := by
        have := (List.getElem?_eq_some_iff.1 hi).1
        rwa [List.length_ofFn] at this
      obtain ⟨c, _, hg, _, _⟩ := hf ⟨i, hil⟩
      rw [List.getElem?_ofFn, dif_pos hil] at hi
      rw [← Option.some.inj hi]
      exact hg

theorem struct {fs : Array Field} (ht : P.underlying t = some (.struct fs)) {L : Nat} (hL : P.cellsOf t = L) (h : OpensF P L fs.toList 0 d G) : Opens P t d G := by
  intro H enc w base spare held fuel cs x hx
  obtain ⟨xs, n, _, _, hl, hlen, hf⟩ := DataW.trod_struct ht hx
  obtain ⟨a, hk, hg⟩ := h H enc w base spare held n cs (hl.trans hL) (fun f hf' => by
    obtain ⟨i, hi⟩ := List.mem_iff_getElem?.1 hf'
    have hi' : fs[i]? = some f := by rw [← Array.getElem?_toList]; exact hi
    have h1 := hf i f hi'
    have hil : i < xs.length := by rw [hlen]; exact (Array.getElem?_eq_some_iff.1 hi').1
    rw [List.getElem?_eq_getElem hil] at h1
    exact ⟨_, h1⟩)
  exact ⟨a, by rw [List.drop_zero] at hk; exact hk, hg⟩
end Opens

namespace OpensF
variable {P : Program} {L : Nat} {f : Field} {fs : List Field} {off m : Nat} {α β : Type} {d : Kd α} {d2 : Kd β} {G : α → Prop} {G2 : β → Prop}

theorem last (ho : f.offset = off) (hm : P.cellsOf f.type = m) (hL : off + m = L) (h : Opens P f.type d G) : OpensF P L [f] off d G := by
  intro H enc w base spare held n cs hl hx
  obtain ⟨y, hy⟩ := hx f (List.mem_singleton.2 rfl)
  obtain ⟨a, hk, hg⟩ := h H enc w base spare held n _ y hy
  refine ⟨a, ?_, hg⟩
  rw [ho, List.take_of_length_le (by rw [List.length_drop]; omega)] at hk
  exact hk

theorem cons (ho : f.offset = off) (hm : P.cellsOf f.type = m) (h : Opens P f.type d G) (h2 : OpensF P L fs (off + m) d2 G2) : OpensF P L (f :: fs) off (Kd.pair d d2) (fun p => G p.1 ∧ G2 p.2) := by
  intro H enc w base spare held n cs hl hx
  obtain ⟨y, hy⟩ := hx f List.mem_cons_self
  obtain ⟨a, hk, hg⟩ := h H enc w base spare held n _ y hy
  obtain ⟨b, hk2, hg2⟩ := h2 H enc w base spare held n cs hl (fun f' hf' => hx f' (List.mem_cons_of_mem _ hf'))
  refine ⟨(a, b), ⟨_, _, ?_, hk, hk2⟩, hg, hg2⟩
  rw [ho, hm, ← List.drop_drop, List.take_append_drop]
end OpensF
end Go.Proofs.YtalhkihppcjanaaV.PrintWords
