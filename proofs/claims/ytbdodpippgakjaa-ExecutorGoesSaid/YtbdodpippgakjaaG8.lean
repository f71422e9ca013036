/- This text proves a part of what the claim needs: contracts of functions of the program. No condition. -/
import Derived.Test.YtbdodpippgakjaaXe
import Derived.Test.YtbdodpippgakjaaVsE
import Derived.Test.YtbdodpippgakjaaRows
import Derived.Test.YtbdodpippgakjaaXi
import Derived.Test.YtbdodpippgakjaaZ8
set_option linter.unusedSimpArgs false
set_option linter.unusedVariables false

namespace Go.Proofs.Ytbdodpippgakjaa
open Go Go.Vs Go.Proofs

/-! ### What is read, as data -/

/-- The reach of what is read, in elements and letters. -/
abbrev bound29 : Nat := 140737488351232

abbrev stepSg : Sg := .pair (.int .u8) (.pair (.int .i64) (.pair (.int .i64) (.pair (.int .i64) .unit)))
abbrev planSg : Sg := .pair (.sl stepSg) (.pair (.sl (.sl (.int .i64))) .unit)
abbrev trySg : Sg := .pair (.int .i64) (.pair (.int .i64) (.pair (.int .u8) .unit))
abbrev exSg : Sg := .pair .bool (.pair .bool (.pair planSg (.pair (.sl trySg) (.pair (.int .i64) .unit))))
abbrev recSg : Sg := .pair (.int .u8) (.pair (.int .i64) (.pair (.int .i64) (.pair (.int .i64) (.pair (.int .u8) (.pair planSg .unit)))))
abbrev choiceSg : Sg := .pair (.int .u8) (.pair (.int .u8) (.pair planSg .unit))

theorem fits_list {α : Type} {M : Nat} {sg : Sg} (row : α → List D) (ok : α → Prop) (h : ∀ ds, Up.Fits M sg ds → ∃ a, ds = row a ∧ ok a) :
    ∀ (es : List (List D)), (∀ x ∈ es, Up.Fits M sg x) → ∃ l : List α, es = l.map row ∧ ∀ a ∈ l, ok a
  | [], _ => ⟨[], rfl, fun a ha => by simp at ha⟩
  | e :: es, he => by
    obtain ⟨a, rfl, ha⟩ := h _ (he _ (List.mem_cons_self ..))
    obtain ⟨l, rfl, hl⟩ := fits_list row ok h es fun x hx => he x (List.mem_cons_of_mem _ hx)
    exact ⟨a :: l, rfl, fun b hb => by
      rcases List.mem_cons.1 hb with rfl | hb
      · exact ha
      · exact hl b hb⟩
theorem fits_step {M : Nat} (ds : List D) (h : Up.Fits M stepSg ds) : ∃ s : Stp, ds = [.int .u8 s.kind, .int .i64 s.host, .int .i64 s.svc, .int .i64 s.ver] ∧ True := by
  obtain ⟨_, _, rfl, ⟨a, rfl, _⟩, _, _, rfl, ⟨b, rfl, _⟩, _, _, rfl, ⟨c, rfl, _⟩, _, _, rfl, ⟨d, rfl, _⟩, h⟩ := h
  have h : _ = ([] : List D) := h
  subst h
  exact ⟨⟨a, b, c, d⟩, rfl, trivial⟩
theorem fits_try {M : Nat} (ds : List D) (h : Up.Fits M trySg ds) : ∃ s : Tr, ds = [.int .i64 s.id, .int .i64 s.lease, .int .u8 s.ans] ∧ True := by
  obtain ⟨_, _, rfl, ⟨a, rfl, _⟩, _, _, rfl, ⟨b, rfl, _⟩, _, _, rfl, ⟨c, rfl, _⟩, h⟩ := h
  have h : _ = ([] : List D) := h
  subst h
  exact ⟨⟨a, b, c⟩, rfl, trivial⟩
theorem fits_num {M : Nat} (ds : List D) (h : Up.Fits M (.int .i64) ds) : ∃ n : Int, ds = [.int .i64 n] ∧ True := by
  obtain ⟨n, rfl, _⟩ := h
  exact ⟨n, rfl, trivial⟩
theorem fits_nums {M : Nat} (ds : List D) (h : Up.Fits M (.sl (.int .i64)) ds) : ∃ l : List Int, ds = [.sl 1 (nums l)] ∧ l.length ≤ M := by
  obtain ⟨es, rfl, hl, he⟩ := h
  obtain ⟨l, rfl, _⟩ := fits_list _ _ fits_num es he
  exact ⟨l, rfl, by simpa using hl⟩
theorem fits_plan {ds : List D} (h : Up.Fits bound29 planSg ds) : ∃ p : Pl, ds = [.sl 4 (stps p.steps), .sl 1 (afts p.after)] ∧ p.fits := by
  obtain ⟨_, _, rfl, ⟨es, rfl, hl, he⟩, _, _, rfl, ⟨fs, rfl, hl2, he2⟩, h⟩ := h
  have h : _ = ([] : List D) := h
  subst h
  obtain ⟨l, rfl, _⟩ := fits_list _ _ fits_step es he
  obtain ⟨m, rfl, hm⟩ := fits_list (fun l => [.sl 1 (nums l)]) (fun l => l.length ≤ bound29) fits_nums fs he2
  exact ⟨⟨l, m⟩, rfl, by simpa using hl, by simpa using hl2, hm⟩
theorem fits_ex {ds : List D} (h : Up.Fits bound29 exSg ds) : ∃ x : Ex, ds = [.bool x.run, .bool x.stp, .sl 4 (stps x.plan.steps), .sl 1 (afts x.plan.after), .sl 3 (trs x.tries), .int .i64 x.next] ∧ x.plan.fits ∧ x.tries.length ≤ bound29 := by
  obtain ⟨_, _, rfl, ⟨a, rfl⟩, _, _, rfl, ⟨b, rfl⟩, _, _, rfl, hp, _, _, rfl, ⟨es, rfl, hl, he⟩, _, _, rfl, ⟨n, rfl, _⟩, h⟩ := h
  have h : _ = ([] : List D) := h
  subst h
  obtain ⟨p, rfl, hpf⟩ := fits_plan hp
  obtain ⟨l, rfl, _⟩ := fits_list _ _ fits_try es he
  exact ⟨⟨a, b, p, l, n⟩, rfl, hpf, by simpa using hl⟩
theorem fits_rec (ds : List D) (h : Up.Fits bound29 recSg ds) : ∃ r : Rc, ds = [.int .u8 r.kind, .int .i64 r.place, .int .i64 r.id, .int .i64 r.lease, .int .u8 r.ans, .sl 4 (stps r.plan.steps), .sl 1 (afts r.plan.after)] ∧ r.plan.fits := by
  obtain ⟨_, _, rfl, ⟨a, rfl, _⟩, _, _, rfl, ⟨b, rfl, _⟩, _, _, rfl, ⟨c, rfl, _⟩, _, _, rfl, ⟨d, rfl, _⟩, _, _, rfl, ⟨e, rfl, _⟩, _, _, rfl, hp, h⟩ := h
  have h : _ = ([] : List D) := h
  subst h
  obtain ⟨p, rfl, hpf⟩ := fits_plan hp
  exact ⟨⟨a, b, c, d, e, p⟩, rfl, hpf⟩
theorem fits_recs {ds : List D} (h : Up.Fits bound29 (.sl recSg) ds) : ∃ l : List Rc, ds = [.sl 7 (rcs l)] ∧ l.length ≤ bound29 ∧ ∀ r ∈ l, r.plan.fits := by
  obtain ⟨es, rfl, hl, he⟩ := h
  obtain ⟨l, rfl, hok⟩ := fits_list _ _ fits_rec es he
  exact ⟨l, rfl, by simpa using hl, hok⟩

theorem own_knob : ownKnob Try.prog.godebug = none := by kernel_rfl
theorem laid_out : laidOutB Try.prog = true := by kernel_rfl
end Go.Proofs.Ytbdodpippgakjaa

namespace Go.Proofs.Ytbdodpippgakjaa
open Go Go.Vs Go.Proofs
theorem fits_u8 {n : Int} (h : (Lit.int .u8 n).wf = true) : 0 ≤ n ∧ n ≤ 255 := by
  simpa [Lit.wf, IntKind.min, IntKind.max, IntKind.signed, IntKind.bits] using h
theorem fits_choice (ds : List D) (h : Up.Fits bound29 choiceSg ds) : ∃ c : Ch, ds = [.int .u8 c.dO, .int .u8 c.at_, .sl 4 (stps c.plan.steps), .sl 1 (afts c.plan.after)] ∧ c.fits := by
  obtain ⟨_, _, rfl, ⟨a, rfl, ha⟩, _, _, rfl, ⟨b, rfl, hb⟩, _, _, rfl, hp, h⟩ := h
  have h : _ = ([] : List D) := h
  subst h
  obtain ⟨p, rfl, hpf⟩ := fits_plan hp
  exact ⟨⟨a, b, p⟩, rfl, hpf, fits_u8 ha, fits_u8 hb⟩
theorem fits_chs {ds : List D} (h : Up.Fits bound29 (.sl choiceSg) ds) : ∃ l : List Ch, ds = [.sl 4 (chs l)] ∧ l.length ≤ bound29 ∧ ∀ c ∈ l, c.fits := by
  obtain ⟨es, rfl, hl, he⟩ := h
  obtain ⟨l, rfl, hok⟩ := fits_list _ _ fits_choice es he
  exact ⟨l, rfl, by simpa using hl, hok⟩
end Go.Proofs.Ytbdodpippgakjaa

namespace Go.Proofs.Ytbdodpippgakjaa
open Go Go.Vs Go.Proofs
open Go.ChangeShapes Go.WideShapes Go.ChangeAt Go.RowKit

theorem goes_args (ps : List PV) (h : Up.FitsAllV bound29 [.sl choiceSg] ps) : Gives Try.prog 8 ps (.c (.d (.bool true))) [] := by
  obtain ⟨d1, ps, rfl, h1, h⟩ := h.one rfl
  cases h.nil
  obtain ⟨l, hl, hn, hok⟩ := fits_chs h1
  cases hl
  exact lawGoes l hn hok

set_option maxRecDepth 100000 in
theorem goes_lifted (os : Os) (started : os.Started) (H : Type) (enc : TypeId × Value → H) :
    ReturnsInHanded {} Try.checked os 8 .any (Rows.executorGoesSpec.pre6 enc Try.prog Try.f8 Rows.executorGoesRow.domain false) (Rows.executorGoesSpec.post enc Try.prog Try.f8 false true false false) := by
  refine returnsInHanded_of_change_sized (C := Try.checked) own_knob started (by kernel_rfl) Try.func8
    (ChangeSpec.witness6 (enc := enc) (C := Try.checked) false ⟨#[], #[.slice none 0 0], []⟩ 8 (by kernel_rfl) (by kernel_rfl) (by kernel_rfl) (by kernel_rfl)) ?_
  intro W base args ds gs before hval hW _ hsz _
  exact Sz.law_contract (s := Rows.executorGoesSpec) Sz.within_cl (n := 8) (sgs := [.sl choiceSg]) rfl (fun ds h => by
    match ds, h with
    | [_], _ => rfl) rfl Try.underlying4 laid_out (by kernel_rfl) (by kernel_rfl) goes_args hval hW (Sz.within_args 8 (by kernel_rfl) hsz)

theorem executorGoes_holds : Rows.ExecutorGoesSaid :=
  OpenClaim.holds_of_wide 8 Try.f8 rfl rfl rfl rfl rfl rfl rfl ⟨rfl, rfl, rfl, rfl, rfl⟩ rfl rfl rfl rfl rfl (by kernel_rfl) Try.func8 (by kernel_rfl)
    (of_decide_eq_true (by kernel_rfl)) (by unfold Func.isWrapper; first | (rw [if_pos (by decide +kernel)]; kernel_rfl) | (rw [if_neg (by decide +kernel)]; exact ⟨rfl, rfl⟩))
    (fun os started H enc _ => goes_lifted os started H enc)

#print axioms executorGoes_holds
end Go.Proofs.Ytbdodpippgakjaa
