/- This text proves a part of what the claim needs: contracts of functions of the program. No condition. -/
import Derived.Test.YtehmaafnbgpkcaaWo
import Derived.Test.YtehmaafnbgpkcaaVsE
import Derived.Test.YtehmaafnbgpkcaaRows
set_option linter.unusedSimpArgs false
set_option linter.unusedVariables false

namespace Go.Proofs.Ytehmaafnbgpkcaa
open Go Go.Vs Go.Proofs
open Go.ChangeShapes Go.WideShapes Go.ChangeAt Go.RowKit

/-! ### What is read, as data -/

abbrev nodeSg : Sg := .pair (.int .i64) (.pair (.int .i64) (.pair (.sl .str) (.pair .bool .unit)))
abbrev nodesSg : Sg := .pair nodeSg (.pair nodeSg (.pair nodeSg .unit))
abbrev reachSg : Sg := .pair (.int .u8) (.pair (.int .u8) (.pair (.int .u8) .unit))

theorem fits_list {α : Type} {M : Nat} {sg : Sg} (row : α → List D) (ok : α → Prop) (h : ∀ ds, Up.Fits M sg ds → ∃ a, ds = row a ∧ ok a) :
    ∀ (es : List (List D)), (∀ x ∈ es, Up.Fits M sg x) → ∃ l : List α, es = l.map row ∧ ∀ a ∈ l, ok a
  | [], _ => ⟨[], rfl, fun a ha => by simp at ha⟩
  | e :: es, he => by
    obtain ⟨a, rfl, ha⟩ := h _ (he _ (List.mem_cons_self ..))
    obtain ⟨l, rfl, hl⟩ := fits_list row ok h es fun x hx => he x (List.mem_cons_of_mem _ hx)
    exact ⟨a :: l, rfl, fun b hb => by
      rcases List.mem_cons.1 hb with rfl | hb
      · exact ha
      · exact hl b hb⟩

theorem fits_str (ds : List D) (h : Up.Fits bound28 .str ds) : ∃ s : ByteArray, ds = [.str s] ∧ s.size ≤ bound28 := h
theorem fits_log {ds : List D} (h : Up.Fits bound28 (.sl .str) ds) : ∃ l : List ByteArray, ds = [.sl 1 (strs l)] ∧ okLog l := by
  obtain ⟨es, rfl, hl, he⟩ := h
  obtain ⟨l, rfl, hs⟩ := fits_list _ _ fits_str es he
  exact ⟨l, rfl, by simpa using hl, hs⟩
theorem fits_node {ds : List D} (h : Up.Fits bound28 nodeSg ds) : ∃ n : Nd, ds = [.int .i64 n.p, .int .i64 n.e, .sl 1 (strs n.log), .bool n.lost] ∧ okLog n.log := by
  obtain ⟨_, _, rfl, ⟨p, rfl, _⟩, _, _, rfl, ⟨e, rfl, _⟩, _, _, rfl, hl, _, _, rfl, ⟨b, rfl⟩, h⟩ := h
  obtain ⟨l, rfl, hs⟩ := fits_log hl
  have h : _ = ([] : List D) := h
  subst h
  exact ⟨⟨p, e, l, b⟩, rfl, hs⟩
theorem fits_nodes {ds : List D} (h : Up.Fits bound28 nodesSg ds) : ∃ n : N3, ds = [.int .i64 n.a.p, .int .i64 n.a.e, .sl 1 (strs n.a.log), .bool n.a.lost, .int .i64 n.b.p, .int .i64 n.b.e, .sl 1 (strs n.b.log), .bool n.b.lost, .int .i64 n.c.p, .int .i64 n.c.e, .sl 1 (strs n.c.log), .bool n.c.lost] ∧ okLog n.a.log ∧ okLog n.b.log ∧ okLog n.c.log := by
  obtain ⟨_, _, rfl, h1, _, _, rfl, h2, _, _, rfl, h3, h4⟩ := h
  obtain ⟨a, rfl, ha⟩ := fits_node h1
  obtain ⟨b, rfl, hb⟩ := fits_node h2
  obtain ⟨c, rfl, hc⟩ := fits_node h3
  have h4 : _ = ([] : List D) := h4
  subst h4
  exact ⟨⟨a, b, c⟩, rfl, ha, hb, hc⟩
theorem fits_reach {M : Nat} {ds : List D} (h : Up.Fits M reachSg ds) : ∃ r : R3, ds = [.int .u8 r.a, .int .u8 r.b, .int .u8 r.c] := by
  obtain ⟨_, _, rfl, ⟨a, rfl, _⟩, _, _, rfl, ⟨b, rfl, _⟩, _, _, rfl, ⟨c, rfl, _⟩, h⟩ := h
  have h : _ = ([] : List D) := h
  subst h
  exact ⟨⟨a, b, c⟩, rfl⟩

theorem own_knob : ownKnob Try.prog.godebug = none := by kernel_rfl
theorem laid_out : laidOutB Try.prog = true := by kernel_rfl

theorem writes_args (ps : List PV) (h : Up.FitsAllV bound28 [nodesSg, reachSg, .int .i64, .sl .str] ps) : Gives Try.prog 4 ps (.c (.d (.bool true))) [] := by
  obtain ⟨ds1, ps, rfl, h1, h⟩ := h.agg rfl
  obtain ⟨ds2, ps, rfl, h2, h⟩ := h.agg rfl
  obtain ⟨d, ps, rfl, h3, h⟩ := h.one rfl
  obtain ⟨d4, ps, rfl, h4, h⟩ := h.one rfl
  cases h.nil
  obtain ⟨ns, rfl, ha, hb, hc⟩ := fits_nodes h1
  obtain ⟨r, rfl⟩ := fits_reach h2
  obtain ⟨e, he, _⟩ := h3
  obtain ⟨m, hm, hl⟩ := fits_log h4
  cases he
  cases hm
  exact lawWrites ns r e m hl ha hb hc

set_option maxRecDepth 100000 in
theorem writes_lifted (os : Os) (started : os.Started) (H : Type) (enc : TypeId × Value → H) :
    ReturnsInHanded {} Try.checked os 4 .any (Rows.replicaWritesSpec.pre6 enc Try.prog Try.f4 Rows.replicaWritesRow.domain false) (Rows.replicaWritesSpec.post enc Try.prog Try.f4 false true false false) := by
  refine returnsInHanded_of_change_sized (C := Try.checked) own_knob started (by kernel_rfl) Try.func4
    (ChangeSpec.witness6 (enc := enc) (C := Try.checked) false ⟨#[], #[.agg #[.int .i64 0, .int .i64 0, .slice none 0 0, .bool false, .int .i64 0, .int .i64 0, .slice none 0 0, .bool false, .int .i64 0, .int .i64 0, .slice none 0 0, .bool false], .agg #[.int .u8 0, .int .u8 0, .int .u8 0], .int .i64 0, .slice none 0 0], []⟩ 8 (by kernel_rfl) (by kernel_rfl) (by kernel_rfl) (by kernel_rfl)) ?_
  intro W base args ds gs before hval hW _ hsz _
  exact Sz.law_contract (s := Rows.replicaWritesSpec) Sz.within_cl (n := 8) (sgs := [nodesSg, reachSg, .int .i64, .sl .str]) rfl (fun ds h => by
    match ds, h with
    | [_, _, _, _], _ => rfl) rfl Try.underlying4 laid_out (by kernel_rfl) (by kernel_rfl) writes_args hval hW (Sz.within_args 8 (by kernel_rfl) hsz)

theorem replicaWrites_holds : Rows.ReplicaWritesSaid :=
  OpenClaim.holds_of_wide 4 Try.f4 rfl rfl rfl rfl rfl rfl rfl ⟨rfl, rfl, rfl, rfl, rfl⟩ rfl rfl rfl rfl rfl (by kernel_rfl) Try.func4 (by kernel_rfl)
    (of_decide_eq_true (by kernel_rfl)) (by unfold Func.isWrapper; first | (rw [if_pos (by decide +kernel)]; kernel_rfl) | (rw [if_neg (by decide +kernel)]; exact ⟨rfl, rfl⟩))
    (fun os started H enc _ => writes_lifted os started H enc)

#print axioms replicaWrites_holds
end Go.Proofs.Ytehmaafnbgpkcaa
