/- This text proves a part of what the claim needs: contracts of functions of the program. No condition. -/
import Derived.Test.YtbdodpippgakjaaVsC
import Derived.JoinedCond
import Derived.SizedLaws
set_option linter.unusedSimpArgs false
set_option linter.unusedVariables false

/- From a reading of the arguments, of bounded bulk, to data; from a contract of a law to the given statement's own words. -/
namespace Go.Vs.Up
open Go.Vs
open Go.ChangeShapes Go.WideShapes Go.ChangeAt Go.RowKit

/-- A bound of what is read: no slice and no text is longer than m, nor any that it leads to. -/
structure Cl {H : Type} (m : Nat) (S : DataW H → Prop) : Prop where
  sl : ∀ (es rest : List (DataW H)), S (.slice es rest) → es.length ≤ m ∧ ∀ e ∈ es, S e
  agg : ∀ (es : List (DataW H)), S (.agg es) → ∀ e ∈ es, S e
  str : ∀ (bs : List UInt8), S (.lit (.string bs)) → bs.length ≤ m

/-- Data of a type. -/
def Fits (M : Nat) : Sg → List D → Prop
  | .bool, ds => ∃ b, ds = [.bool b]
  | .int k, ds => ∃ n, ds = [.int k n] ∧ (Lit.int k n).wf = true
  | .str, ds => ∃ s, ds = [.str s] ∧ s.size ≤ M
  | .sl e, ds => ∃ es, ds = [.sl e.size es] ∧ es.length ≤ M ∧ ∀ x ∈ es, Fits M e x
  | .unit, ds => ds = []
  | .pair a b, ds => ∃ xs ys, ds = xs ++ ys ∧ Fits M a xs ∧ Fits M b ys

theorem Fits.length {M : Nat} : ∀ {sg : Sg} {ds : List D}, Fits M sg ds → ds.length = sg.size
  | .bool, _, ⟨_, h⟩ => by subst h; rfl
  | .int _, _, ⟨_, h, _⟩ => by subst h; rfl
  | .str, _, ⟨_, h, _⟩ => by subst h; rfl
  | .sl _, _, ⟨_, h, _⟩ => by subst h; rfl
  | .unit, _, h => by have h : _ = [] := h; subst h; rfl
  | .pair a b, _, ⟨xs, ys, h, h1, h2⟩ => by subst h; simp [Fits.length h1, Fits.length h2, Sg.size]

/-- A value of a type. -/
def FitsV (M : Nat) (sg : Sg) : PV → Prop
  | .c d => sg.isAgg = false ∧ Fits M sg [d]
  | .agg ds => sg.isAgg = true ∧ Fits M sg ds

section
variable {H : Type} {enc : TypeId × Value → H} {P : Program} {w : World} {spare : Nat → Bool} {held : Bool} {M : Nat} {S : DataW H → Prop}

theorem fields_open {n : Nat} (ih : ∀ (t : TypeId) (sg : Sg) (fuel : Nat) (cs : List Value) (x : DataW H × List MemPlace), okB P n t sg = true → DataW.trod enc P w 0 spare held fuel t cs = some x → S x.1 → ∃ ds, Fits M sg ds ∧ Row w cs ds) :
    ∀ (l : List (Nat × TypeId)) (off : Nat) (sg : Sg) (cs : List Value) (fuel : Nat), fieldsB P (okB P n) l off sg = true → cs.length = off + sg.size →
      (∀ f ∈ l, ∃ x, DataW.trod enc P w 0 spare held fuel f.2 ((cs.drop f.1).take (P.cellsOf f.2)) = some x ∧ S x.1) → ∃ ds, Fits M sg ds ∧ Row w (cs.drop off) ds
  | [], off, sg, cs, fuel, h, hl, _ => by
    cases sg <;> simp [fieldsB] at h
    simp [Sg.size] at hl
    exact ⟨[], rfl, by simp [hl], fun j d hj => by simp at hj⟩
  | (o, t) :: l, off, sg, cs, fuel, h, hl, hx => by
    cases sg <;> simp only [fieldsB, Bool.false_eq_true] at h
    rename_i s fs
    simp only [Bool.and_eq_true, beq_iff_eq] at h
    obtain ⟨⟨⟨rfl, hc⟩, hok⟩, hrest⟩ := h
    simp only [Sg.size] at hl
    obtain ⟨x, hx0, hxS⟩ := hx (o, t) (by simp)
    obtain ⟨xs, hf, hr1, hr2⟩ := ih t s fuel _ x hok hx0 hxS
    obtain ⟨ys, hg, hs1, hs2⟩ := fields_open ih l (o + s.size) fs cs fuel hrest (by omega) fun f hf => hx f (List.mem_cons_of_mem _ hf)
    have hxl : xs.length = s.size := Fits.length hf
    refine ⟨xs ++ ys, ⟨xs, ys, rfl, hf, hg⟩, ?_, fun j d hj => ?_⟩
    · simp only [List.length_append, List.length_drop] at *
      omega
    · rw [List.getElem?_append] at hj
      split at hj
      · rename_i hjx
        have := hr2 j d hj
        simp only [List.getD_eq_getElem?_getD, List.getElem?_take, List.getElem?_drop] at this ⊢
        rw [if_pos (by rw [hc]; omega)] at this
        exact this
      · rename_i hjx
        have := hs2 (j - xs.length) d hj
        simp only [List.getD_eq_getElem?_getD, List.getElem?_drop] at this ⊢
        rw [show o + s.size + (j - xs.length) = o + j by omega] at this
        exact this

theorem cells_open (cl : Cl M S) : ∀ (n : Nat) (t : TypeId) (sg : Sg) (fuel : Nat) (cs : List Value) (x : DataW H × List MemPlace), okB P n t sg = true → DataW.trod enc P w 0 spare held fuel t cs = some x → S x.1 →
    ∃ ds, Fits M sg ds ∧ Row w cs ds
  | 0, t, sg, fuel, cs, x, hok, _, _ => by simp [okB] at hok
  | n + 1, t, sg, fuel, cs, x, hok, h, hS => by
    have ih := cells_open cl n
    unfold okB at hok
    split at hok
    · rename_i hu
      obtain ⟨b, rfl, _⟩ := DataW.trod_bool hu h
      exact ⟨_, ⟨b, rfl⟩, Row.one (.bool b)⟩
    · rename_i k k' hu
      have : k = k' := by simpa using hok
      subst this
      obtain ⟨m, rfl, _, hw⟩ := DataW.trod_int hu h
      exact ⟨_, ⟨m, rfl, hw⟩, Row.one (.int k m)⟩
    · rename_i hu
      obtain ⟨s, rfl, hxx, hs⟩ := DataW.trod_string hu h
      rw [hxx] at hS
      have hl : s.data.toList.length ≤ M := cl.str _ hS
      exact ⟨_, ⟨s, rfl, by rw [Array.length_toList] at hl; exact hl⟩, Row.one (.str s)⟩
    · rename_i e s hu
      simp only [Bool.and_eq_true, beq_iff_eq, decide_eq_true_eq] at hok
      obtain ⟨⟨hc, hpos⟩, hok⟩ := hok
      rcases DataW.trod_slice hu h with ⟨rfl, _⟩ | ⟨a, len, cap, elems, rest, m, rfl, rfl, hxx, _, hlc, hcm, hel, hget, _⟩
      · exact ⟨[.sl s.size []], ⟨[], rfl, Nat.zero_le _, fun x hx => by simp at hx⟩, Row.one (.slNil _)⟩
      · -- each element
        rw [hxx] at hS
        obtain ⟨hS1, hS2⟩ := cl.sl _ _ hS
        rw [List.length_map] at hS1
        have each : ∀ i, i < len → ∃ ds, Fits M s ds ∧ ∀ j, j < s.size → ∃ v, w.cell? (a.add (i * s.size + j)) = some v ∧ ∀ d, ds[j]? = some d → DRel w anyC v d := by
          intro i hi
          have hb := hget i hi
          rw [List.getElem?_eq_getElem (by omega), Option.bind_eq_some_iff] at hb
          obtain ⟨ci, hci, htr⟩ := hb
          obtain ⟨ds, hf, hr1, hr2⟩ := ih e s m ci _ hok htr (hS2 _ (List.mem_map.2 ⟨_, List.getElem_mem _, rfl⟩))
          obtain ⟨_, hcl, hcell⟩ := World.cells?_some hci
          refine ⟨ds, hf, fun j hj => ?_⟩
          rw [hc] at hcl hcell
          refine ⟨ci[j], ?_, fun d hd => ?_⟩
          · have := hcell j hj
            rw [List.getElem?_eq_getElem (by omega)] at this
            have e1 : (a.add (i * s.size)).add j = a.add (i * s.size + j) := by
              unfold Addr.add
              repeat' split
              all_goals first
                | omega
                | (simp; omega)
                | simp_all
            rw [← e1]
            exact this
          · have := hr2 j d hd
            simpa [List.getD_eq_getElem?_getD, show j < ci.length by omega] using this
        rcases Nat.eq_zero_or_pos len with h0 | h0
        · subst h0
          exact ⟨[.sl s.size []], ⟨[], rfl, Nat.zero_le _, fun x hx => by simp at hx⟩, Row.one (.slNone a cap _)⟩
        · have hfn : ∃ f : Nat → List D, ∀ i, i < len → Fits M s (f i) ∧ ∀ j, j < s.size → ∃ v, w.cell? (a.add (i * s.size + j)) = some v ∧ ∀ d, (f i)[j]? = some d → DRel w anyC v d :=
            ⟨fun i => if hi : i < len then (each i hi).choose else [], fun i hi => by
              simp only [hi, dite_true]
              exact (each i hi).choose_spec⟩
          obtain ⟨f, hf⟩ := hfn
          have hfl : ∀ i, i < len → (f i).length = s.size := fun i hi => Fits.length (hf i hi).1
          obtain ⟨v0, hv0, _⟩ := (hf 0 h0).2 0 hpos
          have e0 : a.add (0 * s.size + 0) = a := by simp [Addr.add]
          rw [e0] at hv0
          obtain ⟨hsp, arr, et, fr, hw, _⟩ := cell_heap hv0
          have hoff : ∀ k, (a.add k) = ⟨a.block, a.off + k, none⟩ := fun k => by
            obtain ⟨b, off, sp⟩ := a
            simp only at hsp
            subst hsp
            exact add_none b off k
          have hcells : ∀ i j, i < len → j < s.size → ∃ v, arr[a.off + (i * s.size + j)]? = some v ∧ ∀ d, (f i)[j]? = some d → DRel w anyC v d := by
            intro i j hi hj
            obtain ⟨v, hv, hd⟩ := (hf i hi).2 j hj
            obtain ⟨_, arr', et', fr', hw', hv'⟩ := cell_heap hv
            rw [hoff] at hw' hv'
            rw [hw] at hw'
            cases hw'
            exact ⟨v, hv', hd⟩
          refine ⟨[.sl s.size ((List.range len).map f)], ⟨_, rfl, by simp; omega, fun x hx => ?_⟩, ?_⟩
          · obtain ⟨i, hi, rfl⟩ := List.mem_map.1 hx
            exact (hf i (List.mem_range.1 hi)).1
          · have hlen : ((List.range len).map f).length = len := by simp
            have key : DRel w anyC (.slice (some ⟨a.block, a.off, none⟩) ((List.range len).map f).length cap) (.sl s.size ((List.range len).map f)) := by
              refine .sl a.block a.off cap s.size _ arr et fr (by omega) trivial hw ?_ ?_ ?_
              · rw [hlen]
                obtain ⟨v, hv, _⟩ := hcells (len - 1) (s.size - 1) (by omega) (by omega)
                have := (Array.getElem?_eq_some_iff.1 hv).1
                have e2 : (len - 1) * s.size + s.size = len * s.size := by
                  rw [← Nat.succ_mul]
                  congr 1
                  omega
                omega
              · intro cs hcs
                obtain ⟨i, hi, rfl⟩ := List.mem_map.1 hcs
                exact hfl i (List.mem_range.1 hi)
              · intro i cs j d hi hj
                rw [List.getElem?_map] at hi
                obtain ⟨i', hi', rfl⟩ := Option.map_eq_some_iff.1 hi
                obtain ⟨hi1, hi2⟩ := List.getElem?_eq_some_iff.1 hi'
                simp at hi1 hi2
                subst hi2
                have hjs : j < s.size := by
                  have := (List.getElem?_eq_some_iff.1 hj).1
                  rw [hfl i hi1] at this
                  exact this
                obtain ⟨v, hv, hd⟩ := hcells i j hi1 hjs
                have : arr.getD (a.off + (i * s.size + j)) undef = v := by simp [Array.getD_eq_getD_getElem?, hv]
                rw [this]
                exact hd d hj
            rw [hlen] at key
            have ea : a = ⟨a.block, a.off, none⟩ := by
              obtain ⟨b, off, sp⟩ := a
              simp only at hsp
              subst hsp
              rfl
            rw [ea]
            exact Row.one key
    · rename_i fs hu
      simp only [Bool.and_eq_true, beq_iff_eq] at hok
      obtain ⟨⟨hc, _⟩, hok⟩ := hok
      obtain ⟨xs, m, rfl, hxx, hl, hxl, hg⟩ := DataW.trod_struct hu h
      rw [hxx] at hS
      have hSa := cl.agg _ hS
      have := fields_open (fun t sg fuel cs x => ih t sg fuel cs x) _ 0 _ cs m hok (by omega) (fun f hf => by
        obtain ⟨fd, hfd, rfl⟩ := List.mem_map.1 hf
        obtain ⟨i, hi⟩ := List.getElem?_of_mem hfd
        have hi' : fs[i]? = some fd := by simpa using hi
        have hlt : i < fs.size := (Array.getElem?_eq_some_iff.1 hi').1
        exact ⟨xs[i]'(by omega), by rw [hg i fd hi', List.getElem?_eq_getElem (by omega)], hSa _ (List.mem_map.2 ⟨_, List.getElem_mem _, rfl⟩)⟩)
      simpa using this
    · rename_i k e hu
      simp only [Bool.and_eq_true, beq_iff_eq] at hok
      obtain ⟨⟨hc, _⟩, hok⟩ := hok
      have harr : ∃ m, cs.length = P.cellsOf t ∧ ∀ i, i < k → ∃ x, DataW.trod enc P w 0 spare held m e ((cs.drop (i * P.cellsOf e)).take (P.cellsOf e)) = some x ∧ S x.1 := by
        cases fuel with
        | zero => simp [DataW.trod] at h
        | succ m =>
          unfold DataW.trod at h
          rw [hu] at h
          have h : (if cs.length = P.cellsOf t then ((List.range k).mapM fun i => DataW.trod enc P w 0 spare held m e ((cs.drop (i * P.cellsOf e)).take (P.cellsOf e))).map fun xs => (DataW.agg (xs.map (·.1)), xs.flatMap (·.2)) else none) = some x := by
            split at h <;> simp_all
          split at h
          · rename_i hl
            refine ⟨m, hl, fun i hi => ?_⟩
            obtain ⟨xs, hxs, hxe⟩ := Option.map_eq_some_iff.1 h
            have hSa : ∀ e ∈ xs.map (·.1), S e := cl.agg _ (by rw [← hxe] at hS; exact hS)
            have hlen : xs.length = k := by simpa using mapM_some_length hxs
            have := mapM_some_get hxs i i (by simp [hi])
            rw [this, List.getElem?_eq_getElem (by omega)]
            exact ⟨_, rfl, hSa _ (List.mem_map.2 ⟨_, List.getElem_mem _, rfl⟩)⟩
          · simp at h
      obtain ⟨m, hl, hg⟩ := harr
      have := fields_open (fun t sg fuel cs x => ih t sg fuel cs x) _ 0 _ cs m hok (by omega) (fun f hf => by
        obtain ⟨i, hi, rfl⟩ := List.mem_map.1 hf
        exact hg i (List.mem_range.1 hi))
      simpa using this
    · simp at hok

theorem val_open (cl : Cl M S) {n : Nat} {t : TypeId} {sg : Sg} {v : Value} {d : DataW H} {ps : List MemPlace} {base : Nat} (hok : okB P n t sg = true) (hval : Value.okWide P w .any base t v)
    (h : DataW.Trod enc P w 0 spare held t v d ps) (hS : S d) : ∃ p : PV, PRel w anyC v p ∧ FitsV M sg p := by
  obtain ⟨fuel, hf⟩ := h
  obtain ⟨ds, hfit, hrow⟩ := cells_open cl n t sg fuel _ _ hok hf hS
  have one : One v → sg.isAgg = false → ∃ p : PV, PRel w anyC v p ∧ FitsV M sg p := fun h1 h2 => by
    rw [Value.cells_one h1] at hrow
    have hl := hrow.1
    match ds, hl with
    | [d], _ => exact ⟨.c d, PRel.of_row hrow, h2, hfit⟩
  cases n with
  | zero => simp [okB] at hok
  | succ n =>
    have hagg : (∃ cs, v = .agg cs ∧ cs.size = P.cellsOf t ∧ Go.Row.okWide P w .any base t cs) → sg.isAgg = true → ∃ p : PV, PRel w anyC v p ∧ FitsV M sg p := by
      rintro ⟨cs, rfl, _, _⟩ h2
      refine ⟨.agg ds, ⟨cs, rfl, by simpa [Value.cells] using hrow.1.symm, fun j x hj => ?_⟩, h2, hfit⟩
      have := hrow.2 j x hj
      simpa [Value.cells, List.getD_eq_getElem?_getD, Array.getD_eq_getD_getElem?] using this
    unfold okB at hok
    split at hok
    · rename_i hu
      obtain ⟨b, rfl⟩ := okWide_bool hu hval
      exact one ⟨fun _ => by simp, fun _ => by simp⟩ rfl
    · rename_i k k' hu
      obtain ⟨b, rfl⟩ := okWide_int hu hval
      exact one ⟨fun _ => by simp, fun _ => by simp⟩ rfl
    · rename_i hu
      obtain ⟨b, rfl⟩ := okWide_string hu hval
      exact one ⟨fun _ => by simp, fun _ => by simp⟩ rfl
    · rename_i e s hu
      obtain ⟨a, l, c, rfl⟩ := okWide_slice hu hval
      exact one ⟨fun _ => by simp, fun _ => by simp⟩ rfl
    · rename_i fs hu
      simp only [Bool.and_eq_true, beq_iff_eq] at hok
      have hval : ∃ cs, v = .agg cs ∧ cs.size = P.cellsOf t ∧ Go.Row.okWide P w .any base t cs := by simpa only [Value.okWide, hu] using hval
      exact hagg hval hok.1.2
    · rename_i k e hu
      simp only [Bool.and_eq_true, beq_iff_eq] at hok
      have hval : ∃ cs, v = .agg cs ∧ cs.size = P.cellsOf t ∧ Go.Row.okWide P w .any base t cs := by simpa only [Value.okWide, hu] using hval
      exact hagg hval hok.1.2
    · simp at hok

def FitsAllV (M : Nat) : List Sg → List PV → Prop
  | [], [] => True
  | s :: ss, p :: ps => FitsV M s p ∧ FitsAllV M ss ps
  | _, _ => False

theorem all_open (cl : Cl M S) {n : Nat} {base : Nat} : ∀ {ts : List TypeId} {sgs : List Sg} {vs : List Value} {ds : List (DataW H)} {ps : List MemPlace}, okAllB P n ts sgs = true →
    (∀ (j : Nat) (t : TypeId) (v : Value), ts[j]? = some t → vs[j]? = some v → Value.okWide P w .any base t v) → DataW.TrodAll enc P w 0 spare held ts vs ds ps → (∀ d ∈ ds, S d) →
    ∃ pvs : List PV, PRels w anyC vs pvs ∧ FitsAllV M sgs pvs
  | [], sgs, vs, ds, ps, hok, hval, h, _ => by
    cases sgs with
    | cons _ _ => simp [okAllB] at hok
    | nil =>
      cases vs with
      | nil => exact ⟨[], .nil, trivial⟩
      | cons _ _ => simp [DataW.TrodAll] at h
  | t :: ts, sgs, vs, ds, ps, hok, hval, h, hS => by
    cases sgs with
    | nil => simp [okAllB] at hok
    | cons s ss =>
      simp only [okAllB, Bool.and_eq_true] at hok
      cases vs with
      | nil => simp [DataW.TrodAll] at h
      | cons v vs =>
        cases ds with
        | nil => simp [DataW.TrodAll] at h
        | cons d ds =>
          obtain ⟨p, q, h1, h2, _⟩ := h
          obtain ⟨pv, hp1, hp2⟩ := val_open cl hok.1 (hval 0 t v rfl rfl) h1 (hS _ (List.mem_cons_self ..))
          obtain ⟨pvs, hq1, hq2⟩ := all_open cl hok.2 (fun j t' v' h1 h2 => hval (j + 1) t' v' (by simpa using h1) (by simpa using h2)) h2 fun d hd => hS d (List.mem_cons_of_mem _ hd)
          exact ⟨pv :: pvs, .cons hp1 hq1, hp2, hq2⟩

/-- What the form of a law's statement asks of a call. -/
theorem law_contract (cl : Cl M S) {fn : Func} {s : ChangeSpec} {f n : Nat} {sgs : List Sg} {bt : TypeId} (hs : s.vars = []) (hfn : ∀ ds : List (DataW H), ds.length = fn.params.size → s.fn H ds = { results := [.lit (.bool true)], args := ds })
    (hres : fn.resultTypes = #[bt]) (hbt : P.underlying bt = some .bool) (hlaid : laidOutB P = true) (hread : fn.params.toList.all (fun t => P.readableRec t && decide (t < P.types.size)) = true)
    (hok : okAllB P n fn.params.toList sgs = true) (hg : ∀ ps, FitsAllV M sgs ps → Gives P f ps (.c (.d (.bool true))) [])
    {W : World} {base : Nat} {args : Array Value} {ds gs : List (DataW H)} {before : List MemPlace}
    (hval : ∀ (j : Nat) t v, fn.params[j]? = some t → args[j]? = some v → Value.okWide P W .any base t v)
    (hW : DataW.Whole enc P fn.params.toList s.vars false W args.toList ds gs before) (hS : ∀ d ∈ ds, S d) :
    Calls P f args W fun e W' => ∃ v, e = .returned v ∧ s.post enc P fn false true false false W args v W' := by
  have hW' := hW
  obtain ⟨p, q, hA, hV, rfl, _, _⟩ := hW
  rw [hs] at hV
  obtain ⟨rfl, rfl⟩ := trodVars_none hV
  obtain ⟨pvs, h1, h2⟩ := all_open cl (n := n) (base := base) hok (fun j t v ht hv => hval j t v (by simpa using ht) (by simpa using hv)) hA hS
  have hc := (hg pvs h2).law h1
  have ea : args.toList.toArray = args := by simp
  rw [ea] at hc
  refine hc.mono ?_
  rintro e W' ⟨rfl, hb⟩
  have hlen : ds.length = fn.params.size := by simpa using trodAll_length hA
  have hf : s.fn H (ds ++ []) = { results := [.lit (.bool true)], args := ds } := by rw [List.append_nil]; exact hfn ds hlen
  refine ⟨_, rfl, ds, [], p ++ [], [], p, [], hW', ?_, ?_, ?_, hb.frame _, fun h => by cases h⟩
  · rw [hf, hres]
    exact trodAll_mk1 (shut_bool hbt true)
  · rw [hf]
    refine trodAll_below hlaid hb (fun t ht => ?_) hA
    have := List.all_eq_true.1 hread t ht
    simpa using this
  · rw [hf, hs]
    rfl
end

theorem FitsAllV.nil {M : Nat} {ps : List PV} (h : FitsAllV M [] ps) : ps = [] := by
  cases ps with
  | nil => rfl
  | cons _ _ => exact h.elim
theorem FitsAllV.agg {M : Nat} {s : Sg} {ss : List Sg} {ps : List PV} (hs : s.isAgg = true) (h : FitsAllV M (s :: ss) ps) : ∃ ds ps', ps = .agg ds :: ps' ∧ Fits M s ds ∧ FitsAllV M ss ps' := by
  cases ps with
  | nil => exact h.elim
  | cons p ps =>
    obtain ⟨h1, h2⟩ := h
    cases p with
    | agg ds => exact ⟨ds, ps, rfl, h1.2, h2⟩
    | c d => simp [FitsV, hs] at h1
theorem FitsAllV.one {M : Nat} {s : Sg} {ss : List Sg} {ps : List PV} (hs : s.isAgg = false) (h : FitsAllV M (s :: ss) ps) : ∃ d ps', ps = .c d :: ps' ∧ Fits M s [d] ∧ FitsAllV M ss ps' := by
  cases ps with
  | nil => exact h.elim
  | cons p ps =>
    obtain ⟨h1, h2⟩ := h
    cases p with
    | c d => exact ⟨d, ps, rfl, h1.2, h2⟩
    | agg ds => simp [FitsV, hs] at h1
end Go.Vs.Up

/- From a reading of the arguments, of bounded reach, to data; from a contract of a law to the given statement's own words. -/
namespace Go.Vs.Sz
open Go.Vs
open Go.ChangeShapes Go.WideShapes Go.ChangeAt Go.RowKit

/-- A bound of what is read, type by type: no slice and no text is longer than M, nor any that it leads to. -/
structure ClT {H : Type} (P : Program) (M : Nat) (S : TypeId → DataW H → Prop) : Prop where
  sl : ∀ (t e : TypeId) (es rest : List (DataW H)), P.underlying t = some (.slice e) → S t (.slice es rest) → es.length ≤ M ∧ ∀ x ∈ es, S e x
  st : ∀ (t : TypeId) (fs : Array Field) (es : List (DataW H)), P.underlying t = some (.struct fs) → S t (.agg es) → ∀ (i : Nat) (f : Field) (x : DataW H), fs[i]? = some f → es[i]? = some x → S f.type x
  arr : ∀ (t : TypeId) (k : Nat) (e : TypeId) (es : List (DataW H)), P.underlying t = some (.array k e) → S t (.agg es) → ∀ x ∈ es, S e x
  str : ∀ (t : TypeId) (bs : List UInt8), S t (.lit (.string bs)) → bs.length ≤ M

section
variable {H : Type} {enc : TypeId × Value → H} {P : Program} {w : World} {spare : Nat → Bool} {held : Bool} {M : Nat} {S : TypeId → DataW H → Prop}

theorem fields_open {n : Nat} (ih : ∀ (t : TypeId) (sg : Sg) (fuel : Nat) (cs : List Value) (x : DataW H × List MemPlace), okB P n t sg = true → DataW.trod enc P w 0 spare held fuel t cs = some x → S t x.1 → ∃ ds, Up.Fits M sg ds ∧ Row w cs ds) :
    ∀ (l : List (Nat × TypeId)) (off : Nat) (sg : Sg) (cs : List Value) (fuel : Nat), fieldsB P (okB P n) l off sg = true → cs.length = off + sg.size →
      (∀ f ∈ l, ∃ x, DataW.trod enc P w 0 spare held fuel f.2 ((cs.drop f.1).take (P.cellsOf f.2)) = some x ∧ S f.2 x.1) → ∃ ds, Up.Fits M sg ds ∧ Row w (cs.drop off) ds
  | [], off, sg, cs, fuel, h, hl, _ => by
    cases sg <;> simp [fieldsB] at h
    simp [Sg.size] at hl
    exact ⟨[], rfl, by simp [hl], fun j d hj => by simp at hj⟩
  | (o, t) :: l, off, sg, cs, fuel, h, hl, hx => by
    cases sg <;> simp only [fieldsB, Bool.false_eq_true] at h
    rename_i s fs
    simp only [Bool.and_eq_true, beq_iff_eq] at h
    obtain ⟨⟨⟨rfl, hc⟩, hok⟩, hrest⟩ := h
    simp only [Sg.size] at hl
    obtain ⟨x, hx0, hxS⟩ := hx (o, t) (by simp)
    obtain ⟨xs, hf, hr1, hr2⟩ := ih t s fuel _ x hok hx0 hxS
    obtain ⟨ys, hg, hs1, hs2⟩ := fields_open ih l (o + s.size) fs cs fuel hrest (by omega) fun f hf => hx f (List.mem_cons_of_mem _ hf)
    have hxl : xs.length = s.size := Up.Fits.length hf
    refine ⟨xs ++ ys, ⟨xs, ys, rfl, hf, hg⟩, ?_, fun j d hj => ?_⟩
    · simp only [List.length_append, List.length_drop] at *
      omega
    · rw [List.getElem?_append] at hj
      split at hj
      · rename_i hjx
        have := hr2 j d hj
        simp only [List.getD_eq_getElem?_getD, List.getElem?_take, List.getElem?_drop] at this ⊢
        rw [if_pos (by rw [hc]; omega)] at this
        exact this
      · rename_i hjx
        have := hs2 (j - xs.length) d hj
        simp only [List.getD_eq_getElem?_getD, List.getElem?_drop] at this ⊢
        rw [show o + s.size + (j - xs.length) = o + j by omega] at this
        exact this

theorem cells_open (cl : ClT P M S) : ∀ (n : Nat) (t : TypeId) (sg : Sg) (fuel : Nat) (cs : List Value) (x : DataW H × List MemPlace), okB P n t sg = true → DataW.trod enc P w 0 spare held fuel t cs = some x → S t x.1 →
    ∃ ds, Up.Fits M sg ds ∧ Row w cs ds
  | 0, t, sg, fuel, cs, x, hok, _, _ => by simp [okB] at hok
  | n + 1, t, sg, fuel, cs, x, hok, h, hS => by
    have ih := cells_open cl n
    unfold okB at hok
    split at hok
    · rename_i hu
      obtain ⟨b, rfl, _⟩ := DataW.trod_bool hu h
      exact ⟨_, ⟨b, rfl⟩, Row.one (.bool b)⟩
    · rename_i k k' hu
      have : k = k' := by simpa using hok
      subst this
      obtain ⟨m, rfl, _, hw⟩ := DataW.trod_int hu h
      exact ⟨_, ⟨m, rfl, hw⟩, Row.one (.int k m)⟩
    · rename_i hu
      obtain ⟨s, rfl, hxx, hs⟩ := DataW.trod_string hu h
      rw [hxx] at hS
      have hl : s.data.toList.length ≤ M := cl.str _ _ hS
      exact ⟨_, ⟨s, rfl, by rw [Array.length_toList] at hl; exact hl⟩, Row.one (.str s)⟩
    · rename_i e s hu
      simp only [Bool.and_eq_true, beq_iff_eq, decide_eq_true_eq] at hok
      obtain ⟨⟨hc, hpos⟩, hok⟩ := hok
      rcases DataW.trod_slice hu h with ⟨rfl, _⟩ | ⟨a, len, cap, elems, rest, m, rfl, rfl, hxx, _, hlc, hcm, hel, hget, _⟩
      · exact ⟨[.sl s.size []], ⟨[], rfl, Nat.zero_le _, fun x hx => by simp at hx⟩, Row.one (.slNil _)⟩
      · -- each element
        rw [hxx] at hS
        obtain ⟨hS1, hS2⟩ := cl.sl _ _ _ _ hu hS
        rw [List.length_map] at hS1
        have each : ∀ i, i < len → ∃ ds, Up.Fits M s ds ∧ ∀ j, j < s.size → ∃ v, w.cell? (a.add (i * s.size + j)) = some v ∧ ∀ d, ds[j]? = some d → DRel w anyC v d := by
          intro i hi
          have hb := hget i hi
          rw [List.getElem?_eq_getElem (by omega), Option.bind_eq_some_iff] at hb
          obtain ⟨ci, hci, htr⟩ := hb
          obtain ⟨ds, hf, hr1, hr2⟩ := ih e s m ci _ hok htr (hS2 _ (List.mem_map.2 ⟨_, List.getElem_mem _, rfl⟩))
          obtain ⟨_, hcl, hcell⟩ := World.cells?_some hci
          refine ⟨ds, hf, fun j hj => ?_⟩
          rw [hc] at hcl hcell
          refine ⟨ci[j], ?_, fun d hd => ?_⟩
          · have := hcell j hj
            rw [List.getElem?_eq_getElem (by omega)] at this
            have e1 : (a.add (i * s.size)).add j = a.add (i * s.size + j) := by
              unfold Addr.add
              repeat' split
              all_goals first
                | omega
                | (simp; omega)
                | simp_all
            rw [← e1]
            exact this
          · have := hr2 j d hd
            simpa [List.getD_eq_getElem?_getD, show j < ci.length by omega] using this
        rcases Nat.eq_zero_or_pos len with h0 | h0
        · subst h0
          exact ⟨[.sl s.size []], ⟨[], rfl, Nat.zero_le _, fun x hx => by simp at hx⟩, Row.one (.slNone a cap _)⟩
        · have hfn : ∃ f : Nat → List D, ∀ i, i < len → Up.Fits M s (f i) ∧ ∀ j, j < s.size → ∃ v, w.cell? (a.add (i * s.size + j)) = some v ∧ ∀ d, (f i)[j]? = some d → DRel w anyC v d :=
            ⟨fun i => if hi : i < len then (each i hi).choose else [], fun i hi => by
              simp only [hi, dite_true]
              exact (each i hi).choose_spec⟩
          obtain ⟨f, hf⟩ := hfn
          have hfl : ∀ i, i < len → (f i).length = s.size := fun i hi => Up.Fits.length (hf i hi).1
          obtain ⟨v0, hv0, _⟩ := (hf 0 h0).2 0 hpos
          have e0 : a.add (0 * s.size + 0) = a := by simp [Addr.add]
          rw [e0] at hv0
          obtain ⟨hsp, arr, et, fr, hw, _⟩ := cell_heap hv0
          have hoff : ∀ k, (a.add k) = ⟨a.block, a.off + k, none⟩ := fun k => by
            obtain ⟨b, off, sp⟩ := a
            simp only at hsp
            subst hsp
            exact add_none b off k
          have hcells : ∀ i j, i < len → j < s.size → ∃ v, arr[a.off + (i * s.size + j)]? = some v ∧ ∀ d, (f i)[j]? = some d → DRel w anyC v d := by
            intro i j hi hj
            obtain ⟨v, hv, hd⟩ := (hf i hi).2 j hj
            obtain ⟨_, arr', et', fr', hw', hv'⟩ := cell_heap hv
            rw [hoff] at hw' hv'
            rw [hw] at hw'
            cases hw'
            exact ⟨v, hv', hd⟩
          refine ⟨[.sl s.size ((List.range len).map f)], ⟨_, rfl, by simp; omega, fun x hx => ?_⟩, ?_⟩
          · obtain ⟨i, hi, rfl⟩ := List.mem_map.1 hx
            exact (hf i (List.mem_range.1 hi)).1
          · have hlen : ((List.range len).map f).length = len := by simp
            have key : DRel w anyC (.slice (some ⟨a.block, a.off, none⟩) ((List.range len).map f).length cap) (.sl s.size ((List.range len).map f)) := by
              refine .sl a.block a.off cap s.size _ arr et fr (by omega) trivial hw ?_ ?_ ?_
              · rw [hlen]
                obtain ⟨v, hv, _⟩ := hcells (len - 1) (s.size - 1) (by omega) (by omega)
                have := (Array.getElem?_eq_some_iff.1 hv).1
                have e2 : (len - 1) * s.size + s.size = len * s.size := by
                  rw [← Nat.succ_mul]
                  congr 1
                  omega
                omega
              · intro cs hcs
                obtain ⟨i, hi, rfl⟩ := List.mem_map.1 hcs
                exact hfl i (List.mem_range.1 hi)
              · intro i cs j d hi hj
                rw [List.getElem?_map] at hi
                obtain ⟨i', hi', rfl⟩ := Option.map_eq_some_iff.1 hi
                obtain ⟨hi1, hi2⟩ := List.getElem?_eq_some_iff.1 hi'
                simp at hi1 hi2
                subst hi2
                have hjs : j < s.size := by
                  have := (List.getElem?_eq_some_iff.1 hj).1
                  rw [hfl i hi1] at this
                  exact this
                obtain ⟨v, hv, hd⟩ := hcells i j hi1 hjs
                have : arr.getD (a.off + (i * s.size + j)) undef = v := by simp [Array.getD_eq_getD_getElem?, hv]
                rw [this]
                exact hd d hj
            rw [hlen] at key
            have ea : a = ⟨a.block, a.off, none⟩ := by
              obtain ⟨b, off, sp⟩ := a
              simp only at hsp
              subst hsp
              rfl
            rw [ea]
            exact Row.one key
    · rename_i fs hu
      simp only [Bool.and_eq_true, beq_iff_eq] at hok
      obtain ⟨⟨hc, _⟩, hok⟩ := hok
      obtain ⟨xs, m, rfl, hxx, hl, hxl, hg⟩ := DataW.trod_struct hu h
      rw [hxx] at hS
      have hSa := cl.st _ _ _ hu hS
      have := fields_open (fun t sg fuel cs x => ih t sg fuel cs x) _ 0 _ cs m hok (by omega) (fun f hf => by
        obtain ⟨fd, hfd, rfl⟩ := List.mem_map.1 hf
        obtain ⟨i, hi⟩ := List.getElem?_of_mem hfd
        have hi' : fs[i]? = some fd := by simpa using hi
        have hlt : i < fs.size := (Array.getElem?_eq_some_iff.1 hi').1
        exact ⟨xs[i]'(by omega), by rw [hg i fd hi', List.getElem?_eq_getElem (by omega)], hSa i fd _ hi' (by rw [List.getElem?_map, List.getElem?_eq_getElem (by omega)]; rfl)⟩)
      simpa using this
    · rename_i k e hu
      simp only [Bool.and_eq_true, beq_iff_eq] at hok
      obtain ⟨⟨hc, _⟩, hok⟩ := hok
      have harr : ∃ m, cs.length = P.cellsOf t ∧ ∀ i, i < k → ∃ x, DataW.trod enc P w 0 spare held m e ((cs.drop (i * P.cellsOf e)).take (P.cellsOf e)) = some x ∧ S e x.1 := by
        cases fuel with
        | zero => simp [DataW.trod] at h
        | succ m =>
          unfold DataW.trod at h
          rw [hu] at h
          have h : (if cs.length = P.cellsOf t then ((List.range k).mapM fun i => DataW.trod enc P w 0 spare held m e ((cs.drop (i * P.cellsOf e)).take (P.cellsOf e))).map fun xs => (DataW.agg (xs.map (·.1)), xs.flatMap (·.2)) else none) = some x := by
            split at h <;> simp_all
          split at h
          · rename_i hl
            refine ⟨m, hl, fun i hi => ?_⟩
            obtain ⟨xs, hxs, hxe⟩ := Option.map_eq_some_iff.1 h
            have hSa : ∀ y ∈ xs.map (·.1), S e y := cl.arr _ _ _ _ hu (by rw [← hxe] at hS; exact hS)
            have hlen : xs.length = k := by simpa using mapM_some_length hxs
            have := mapM_some_get hxs i i (by simp [hi])
            rw [this, List.getElem?_eq_getElem (by omega)]
            exact ⟨_, rfl, hSa _ (List.mem_map.2 ⟨_, List.getElem_mem _, rfl⟩)⟩
          · simp at h
      obtain ⟨m, hl, hg⟩ := harr
      have := fields_open (fun t sg fuel cs x => ih t sg fuel cs x) _ 0 _ cs m hok (by omega) (fun f hf => by
        obtain ⟨i, hi, rfl⟩ := List.mem_map.1 hf
        exact hg i (List.mem_range.1 hi))
      simpa using this
    · simp at hok

theorem val_open (cl : ClT P M S) {n : Nat} {t : TypeId} {sg : Sg} {v : Value} {d : DataW H} {ps : List MemPlace} {base : Nat} (hok : okB P n t sg = true) (hval : Value.okWide P w .any base t v)
    (h : DataW.Trod enc P w 0 spare held t v d ps) (hS : S t d) : ∃ p : PV, PRel w anyC v p ∧ Up.FitsV M sg p := by
  obtain ⟨fuel, hf⟩ := h
  obtain ⟨ds, hfit, hrow⟩ := cells_open cl n t sg fuel _ _ hok hf hS
  have one : One v → sg.isAgg = false → ∃ p : PV, PRel w anyC v p ∧ Up.FitsV M sg p := fun h1 h2 => by
    rw [Value.cells_one h1] at hrow
    have hl := hrow.1
    match ds, hl with
    | [d], _ => exact ⟨.c d, PRel.of_row hrow, h2, hfit⟩
  cases n with
  | zero => simp [okB] at hok
  | succ n =>
    have hagg : (∃ cs, v = .agg cs ∧ cs.size = P.cellsOf t ∧ Go.Row.okWide P w .any base t cs) → sg.isAgg = true → ∃ p : PV, PRel w anyC v p ∧ Up.FitsV M sg p := by
      rintro ⟨cs, rfl, _, _⟩ h2
      refine ⟨.agg ds, ⟨cs, rfl, by simpa [Value.cells] using hrow.1.symm, fun j x hj => ?_⟩, h2, hfit⟩
      have := hrow.2 j x hj
      simpa [Value.cells, List.getD_eq_getElem?_getD, Array.getD_eq_getD_getElem?] using this
    unfold okB at hok
    split at hok
    · rename_i hu
      obtain ⟨b, rfl⟩ := okWide_bool hu hval
      exact one ⟨fun _ => by simp, fun _ => by simp⟩ rfl
    · rename_i k k' hu
      obtain ⟨b, rfl⟩ := okWide_int hu hval
      exact one ⟨fun _ => by simp, fun _ => by simp⟩ rfl
    · rename_i hu
      obtain ⟨b, rfl⟩ := okWide_string hu hval
      exact one ⟨fun _ => by simp, fun _ => by simp⟩ rfl
    · rename_i e s hu
      obtain ⟨a, l, c, rfl⟩ := okWide_slice hu hval
      exact one ⟨fun _ => by simp, fun _ => by simp⟩ rfl
    · rename_i fs hu
      simp only [Bool.and_eq_true, beq_iff_eq] at hok
      have hval : ∃ cs, v = .agg cs ∧ cs.size = P.cellsOf t ∧ Go.Row.okWide P w .any base t cs := by simpa only [Value.okWide, hu] using hval
      exact hagg hval hok.1.2
    · rename_i k e hu
      simp only [Bool.and_eq_true, beq_iff_eq] at hok
      have hval : ∃ cs, v = .agg cs ∧ cs.size = P.cellsOf t ∧ Go.Row.okWide P w .any base t cs := by simpa only [Value.okWide, hu] using hval
      exact hagg hval hok.1.2
    · simp at hok

theorem all_open (cl : ClT P M S) {n : Nat} {base : Nat} : ∀ {ts : List TypeId} {sgs : List Sg} {vs : List Value} {ds : List (DataW H)} {ps : List MemPlace}, okAllB P n ts sgs = true →
    (∀ (j : Nat) (t : TypeId) (v : Value), ts[j]? = some t → vs[j]? = some v → Value.okWide P w .any base t v) → DataW.TrodAll enc P w 0 spare held ts vs ds ps → (∀ (j : Nat) (t : TypeId) (d : DataW H), ts[j]? = some t → ds[j]? = some d → S t d) →
    ∃ pvs : List PV, PRels w anyC vs pvs ∧ Up.FitsAllV M sgs pvs
  | [], sgs, vs, ds, ps, hok, hval, h, _ => by
    cases sgs with
    | cons _ _ => simp [okAllB] at hok
    | nil =>
      cases vs with
      | nil => exact ⟨[], .nil, trivial⟩
      | cons _ _ => simp [DataW.TrodAll] at h
  | t :: ts, sgs, vs, ds, ps, hok, hval, h, hS => by
    cases sgs with
    | nil => simp [okAllB] at hok
    | cons s ss =>
      simp only [okAllB, Bool.and_eq_true] at hok
      cases vs with
      | nil => simp [DataW.TrodAll] at h
      | cons v vs =>
        cases ds with
        | nil => simp [DataW.TrodAll] at h
        | cons d ds =>
          obtain ⟨p, q, h1, h2, _⟩ := h
          obtain ⟨pv, hp1, hp2⟩ := val_open cl hok.1 (hval 0 t v rfl rfl) h1 (hS 0 t d rfl rfl)
          obtain ⟨pvs, hq1, hq2⟩ := all_open cl hok.2 (fun j t' v' h1 h2 => hval (j + 1) t' v' (by simpa using h1) (by simpa using h2)) h2 fun j t' d' h1 h2 => hS (j + 1) t' d' (by simpa using h1) (by simpa using h2)
          exact ⟨pv :: pvs, .cons hp1 hq1, hp2, hq2⟩

/-- What the form of a law's statement asks of a call. -/
theorem law_contract (cl : ClT P M S) {fn : Func} {s : ChangeSpec} {f n : Nat} {sgs : List Sg} {bt : TypeId} (hs : s.vars = []) (hfn : ∀ ds : List (DataW H), ds.length = fn.params.size → s.fn H ds = { results := [.lit (.bool true)], args := ds })
    (hres : fn.resultTypes = #[bt]) (hbt : P.underlying bt = some .bool) (hlaid : laidOutB P = true) (hread : fn.params.toList.all (fun t => P.readableRec t && decide (t < P.types.size)) = true)
    (hok : okAllB P n fn.params.toList sgs = true) (hg : ∀ ps, Up.FitsAllV M sgs ps → Gives P f ps (.c (.d (.bool true))) [])
    {W : World} {base : Nat} {args : Array Value} {ds gs : List (DataW H)} {before : List MemPlace}
    (hval : ∀ (j : Nat) t v, fn.params[j]? = some t → args[j]? = some v → Value.okWide P W .any base t v)
    (hW : DataW.Whole enc P fn.params.toList s.vars false W args.toList ds gs before) (hS : ∀ (j : Nat) (t : TypeId) (d : DataW H), fn.params.toList[j]? = some t → ds[j]? = some d → S t d) :
    Calls P f args W fun e W' => ∃ v, e = .returned v ∧ s.post enc P fn false true false false W args v W' := by
  have hW' := hW
  obtain ⟨p, q, hA, hV, rfl, _, _⟩ := hW
  rw [hs] at hV
  obtain ⟨rfl, rfl⟩ := trodVars_none hV
  obtain ⟨pvs, h1, h2⟩ := all_open cl (n := n) (base := base) hok (fun j t v ht hv => hval j t v (by simpa using ht) (by simpa using hv)) hA hS
  have hc := (hg pvs h2).law h1
  have ea : args.toList.toArray = args := by simp
  rw [ea] at hc
  refine hc.mono ?_
  rintro e W' ⟨rfl, hb⟩
  have hlen : ds.length = fn.params.size := by simpa using trodAll_length hA
  have hf : s.fn H (ds ++ []) = { results := [.lit (.bool true)], args := ds } := by rw [List.append_nil]; exact hfn ds hlen
  refine ⟨_, rfl, ds, [], p ++ [], [], p, [], hW', ?_, ?_, ?_, hb.frame _, fun h => by cases h⟩
  · rw [hf, hres]
    exact trodAll_mk1 (shut_bool hbt true)
  · rw [hf]
    refine trodAll_below hlaid hb (fun t ht => ?_) hA
    have := List.all_eq_true.1 hread t ht
    simpa using this
  · rw [hf, hs]
    rfl
end


/-- What the form's own reach says of what is read. -/
def within {H : Type} (P : Program) (t : TypeId) (d : DataW H) : Prop := (d.weights P t).all (· ≤ reachBytes) = true

theorem within_all {H : Type} {P : Program} {e : TypeId} : ∀ {l : List (DataW H)}, (DataW.weightsAll P e l).all (· ≤ reachBytes) = true → ∀ x ∈ l, within P e x
  | [], _, x, hx => by simp at hx
  | d :: r, h, x, hx => by
    simp only [DataW.weightsAll, List.all_append, Bool.and_eq_true] at h
    rcases List.mem_cons.1 hx with rfl | hx
    · exact h.1
    · exact within_all h.2 x hx

theorem within_each {H : Type} {P : Program} : ∀ {ts : List TypeId} {ds : List (DataW H)}, (DataW.weightsEach P ts ds).all (· ≤ reachBytes) = true → ∀ (j : Nat) (t : TypeId) (d : DataW H), ts[j]? = some t → ds[j]? = some d → within P t d := by
  intro ts ds h j t d ht hd
  refine List.all_eq_true.2 fun n hn => ?_
  exact List.all_eq_true.1 h n (DataW.weights_mem_each ht hd n hn)

/-- Each element of a slice takes at least one byte, at every depth. -/
def good (P : Program) : Nat → TypeId → Bool
  | 0, _ => false
  | n + 1, t => match P.underlying t with
    | some (.slice e) => decide (1 ≤ P.bytesOf e) && good P n e
    | some (.struct fs) => fs.toList.all fun f => good P n f.type
    | some (.array _ e) => good P n e
    | _ => true

def Within {H : Type} (P : Program) (t : TypeId) (d : DataW H) : Prop := within P t d ∧ ∃ n, good P n t = true

theorem within_cl {H : Type} {P : Program} : ClT (H := H) P reachBytes (Within P) where
  sl := fun t e es rest hu h => by
    obtain ⟨h, n, hg⟩ := h
    cases n with
    | zero => simp [good] at hg
    | succ n =>
      simp only [good, hu, Bool.and_eq_true, decide_eq_true_eq] at hg
      unfold within at h
      simp only [DataW.weights, hu, List.all_cons, List.all_append, Bool.and_eq_true, decide_eq_true_eq] at h
      have h2 : (es.length + rest.length) * 1 ≤ (es.length + rest.length) * P.bytesOf e := Nat.mul_le_mul_left _ hg.1
      exact ⟨by omega, fun x hx => ⟨within_all h.2.1 x hx, n, hg.2⟩⟩
  st := fun t fs es hu h i f x hf hx => by
    obtain ⟨h, n, hg⟩ := h
    cases n with
    | zero => simp [good] at hg
    | succ n =>
      simp only [good, hu] at hg
      unfold within at h
      simp only [DataW.weights, hu] at h
      have hm : fs.toList[i]? = some f := by rw [Array.getElem?_toList, hf]
      exact ⟨within_each h i f.type x (by rw [List.getElem?_map, hm]; rfl) hx, n, List.all_eq_true.1 hg f (List.mem_of_getElem? hm)⟩
  arr := fun t k e es hu h => by
    obtain ⟨h, n, hg⟩ := h
    cases n with
    | zero => simp [good] at hg
    | succ n =>
      simp only [good, hu] at hg
      unfold within at h
      simp only [DataW.weights, hu] at h
      exact fun x hx => ⟨within_all h x hx, n, hg⟩
  str := fun t bs h => by
    have h := h.1
    unfold within at h
    simpa [DataW.weights] using h

theorem within_args {H : Type} {P : Program} {ts us : List TypeId} {ds gs : List (DataW H)} (n : Nat) (hg : ts.all (good P n) = true) (h : (DataW.weightsEach P (ts ++ us) (ds ++ gs)).all (· ≤ reachBytes) = true) :
    ∀ (j : Nat) (t : TypeId) (d : DataW H), ts[j]? = some t → ds[j]? = some d → Within P t d := fun j t d ht hd =>
  ⟨within_each h j t d (by rw [List.getElem?_append_left (List.getElem?_eq_some_iff.1 ht).1]; exact ht) (by rw [List.getElem?_append_left (List.getElem?_eq_some_iff.1 hd).1]; exact hd), n,
    List.all_eq_true.1 hg t (List.mem_of_getElem? ht)⟩
end Go.Vs.Sz
