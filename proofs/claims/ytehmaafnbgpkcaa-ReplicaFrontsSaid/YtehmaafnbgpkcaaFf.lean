/- This text proves a part of what the claim needs: contracts of functions of the program. No condition. -/
import Derived.Test.YtehmaafnbgpkcaaWb
import Derived.Test.YtehmaafnbgpkcaaVsC
import Derived.Test.YtehmaafnbgpkcaaWi
import Derived.Test.YtehmaafnbgpkcaaWj
import Derived.Test.YtehmaafnbgpkcaaRows
set_option linter.unusedSimpArgs false
set_option linter.unusedVariables false

namespace Go.Proofs.Ytehmaafnbgpkcaa
open Go Go.Vs Go.Proofs

theorem fits_strs : ∀ (es : List (List D)), (∀ x ∈ es, Fits .str x) → ∃ l : List ByteArray, es = strs l ∧ ∀ s ∈ l, s.size ≤ maxLen
  | [], _ => ⟨[], rfl, fun s hs => by simp at hs⟩
  | e :: es, h => by
    obtain ⟨s, rfl, hs⟩ := h _ List.mem_cons_self
    obtain ⟨l, rfl, hl⟩ := fits_strs es fun x hx => h x (List.mem_cons_of_mem _ hx)
    exact ⟨s :: l, rfl, fun u hu => by
      rcases List.mem_cons.1 hu with rfl | hu
      · exact hs
      · exact hl u hu⟩

theorem fits_log {ds : List D} (h : Fits (.sl .str) ds) : ∃ l : List ByteArray, ds = [.sl 1 (strs l)] ∧ l.length ≤ maxLen ∧ ∀ s ∈ l, s.size ≤ maxLen := by
  obtain ⟨es, rfl, hl, he⟩ := h
  obtain ⟨l, rfl, hs⟩ := fits_strs es he
  exact ⟨l, rfl, by simpa [strs] using hl, hs⟩

theorem fits_u8 {n : Int} (h : (Lit.int .u8 n).wf = true) : 0 ≤ n ∧ n ≤ 255 := by
  simpa [Lit.wf, IntKind.min, IntKind.max, IntKind.signed, IntKind.bits] using h
theorem fits_i64 {n : Int} (h : (Lit.int .i64 n).wf = true) : -9223372036854775808 ≤ n ∧ n ≤ 9223372036854775807 := by
  simpa [Lit.wf, IntKind.min, IntKind.max, IntKind.signed, IntKind.bits] using h

abbrev nodeSg : Sg := .pair (.int .i64) (.pair (.int .i64) (.pair (.sl .str) (.pair .bool .unit)))
abbrev nodesSg : Sg := .pair nodeSg (.pair nodeSg (.pair nodeSg .unit))
abbrev reachSg : Sg := .pair (.int .u8) (.pair (.int .u8) (.pair (.int .u8) .unit))

theorem fits_node {ds : List D} (h : Fits nodeSg ds) : ∃ n : Nd, ds = [.int .i64 n.p, .int .i64 n.e, .sl 1 (strs n.log), .bool n.lost] ∧ ∀ s ∈ n.log, s.size ≤ maxLen := by
  obtain ⟨_, _, rfl, ⟨p, rfl, _⟩, _, _, rfl, ⟨e, rfl, _⟩, _, _, rfl, hl, _, _, rfl, ⟨b, rfl⟩, h⟩ := h
  obtain ⟨l, rfl, _, hs⟩ := fits_log hl
  have h : _ = ([] : List D) := h
  subst h
  exact ⟨⟨p, e, l, b⟩, rfl, hs⟩

theorem fits_nodes {ds : List D} (h : Fits nodesSg ds) : ∃ n : N3, ds = [.int .i64 n.a.p, .int .i64 n.a.e, .sl 1 (strs n.a.log), .bool n.a.lost, .int .i64 n.b.p, .int .i64 n.b.e, .sl 1 (strs n.b.log), .bool n.b.lost, .int .i64 n.c.p, .int .i64 n.c.e, .sl 1 (strs n.c.log), .bool n.c.lost] := by
  obtain ⟨_, _, rfl, h1, _, _, rfl, h2, _, _, rfl, h3, h4⟩ := h
  obtain ⟨a, rfl, _⟩ := fits_node h1
  obtain ⟨b, rfl, _⟩ := fits_node h2
  obtain ⟨c, rfl, _⟩ := fits_node h3
  have h4 : _ = ([] : List D) := h4
  subst h4
  exact ⟨⟨a, b, c⟩, rfl⟩

theorem fits_reach {ds : List D} (h : Fits reachSg ds) : ∃ r : R3, ds = [.int .u8 r.a, .int .u8 r.b, .int .u8 r.c] := by
  obtain ⟨_, _, rfl, ⟨a, rfl, _⟩, _, _, rfl, ⟨b, rfl, _⟩, _, _, rfl, ⟨c, rfl, _⟩, h⟩ := h
  have h : _ = ([] : List D) := h
  subst h
  exact ⟨⟨a, b, c⟩, rfl⟩

theorem own_knob : ownKnob Try.prog.godebug = none := by kernel_rfl
theorem laid_out : laidOutB Try.prog = true := by kernel_rfl
end Go.Proofs.Ytehmaafnbgpkcaa

namespace Go.Proofs.Ytehmaafnbgpkcaa
open Go Go.Vs Go.Proofs

abbrev actSg : Sg := .pair (.int .u8) (.pair (.int .u8) (.pair (.int .u8) (.pair .str .unit)))

theorem fits_act {ds : List D} (h : Fits actSg ds) : ∃ a : Act, ds = [.int .u8 a.what, .int .u8 a.who, .int .u8 a.reach, .str a.line] ∧ a.ok := by
  obtain ⟨_, _, rfl, ⟨p, rfl, _⟩, _, _, rfl, ⟨e, rfl, w2⟩, _, _, rfl, ⟨r, rfl, w3⟩, _, _, rfl, ⟨s, rfl, _⟩, h⟩ := h
  have h : _ = ([] : List D) := h
  subst h
  exact ⟨⟨p, e, r, s⟩, rfl, fits_u8 w2, fits_u8 w3⟩

theorem fits_actl : ∀ (es : List (List D)), (∀ x ∈ es, Fits actSg x) → ∃ l : List Act, es = acts l ∧ ∀ a ∈ l, a.ok
  | [], _ => ⟨[], rfl, fun s hs => by simp at hs⟩
  | e :: es, h => by
    obtain ⟨a, rfl, ha⟩ := fits_act (h _ List.mem_cons_self)
    obtain ⟨l, rfl, hl⟩ := fits_actl es fun x hx => h x (List.mem_cons_of_mem _ hx)
    exact ⟨a :: l, rfl, fun u hu => by
      rcases List.mem_cons.1 hu with rfl | hu
      · exact ha
      · exact hl u hu⟩

theorem fits_acts {d : D} (h : Fits (.sl actSg) [d]) : ∃ l : List Act, d = .sl 4 (acts l) ∧ ∀ a ∈ l, a.ok := by
  obtain ⟨es, he, _, hes⟩ := h
  obtain ⟨l, rfl, hl⟩ := fits_actl es hes
  cases he
  exact ⟨l, rfl, hl⟩
end Go.Proofs.Ytehmaafnbgpkcaa

namespace Go.Proofs.Ytehmaafnbgpkcaa
open Go Go.Vs Go.Proofs
open Go.ChangeShapes Go.WideShapes Go.ChangeAt Go.RowKit

theorem fronts_args (ps : List PV) (h : FitsAllV [.sl actSg] ps) : Gives Try.prog 7 ps (.c (.d (.bool true))) [] := by
  obtain ⟨d1, ps, rfl, h1, h⟩ := h.one rfl
  cases h.nil
  obtain ⟨l, hl, hok⟩ := fits_acts h1
  cases hl
  exact lawFronts l hok

set_option maxRecDepth 100000 in
theorem fronts_lifted (os : Os) (started : os.Started) (H : Type) (enc : TypeId × Value → H) :
    ReturnsInHanded {} Try.checked os 7 .any (Rows.replicaFrontsSpec.pre6 enc Try.prog Try.f7 Rows.replicaFrontsRow.domain false) (Rows.replicaFrontsSpec.post enc Try.prog Try.f7 false true false false) := by
  refine returnsInHanded_of_change (C := Try.checked) own_knob started (by kernel_rfl) Try.func7
    (ChangeSpec.witness6 (enc := enc) (C := Try.checked) false ⟨#[], #[.slice none 0 0], []⟩ 8 (by kernel_rfl) (by kernel_rfl) (by kernel_rfl) (by kernel_rfl)) ?_
  intro W base args ds gs before hval hW _ _
  exact law_contract (n := 8) (sgs := [.sl actSg]) rfl (fun ds h => by
    match ds, h with
    | [_], _ => rfl) rfl Try.underlying4 laid_out (by kernel_rfl) (by kernel_rfl) fronts_args hval hW

theorem replicaFronts_holds : Rows.ReplicaFrontsSaid :=
  OpenClaim.holds_of_wide 7 Try.f7 rfl rfl rfl rfl rfl rfl rfl ⟨rfl, rfl, rfl, rfl, rfl⟩ rfl rfl rfl rfl rfl (by kernel_rfl) Try.func7 (by kernel_rfl)
    (of_decide_eq_true (by kernel_rfl)) (by unfold Func.isWrapper; first | (rw [if_pos (by decide +kernel)]; kernel_rfl) | (rw [if_neg (by decide +kernel)]; exact ⟨rfl, rfl⟩))
    (fun os started H enc _ => fronts_lifted os started H enc)

#print axioms replicaFronts_holds
end Go.Proofs.Ytehmaafnbgpkcaa
